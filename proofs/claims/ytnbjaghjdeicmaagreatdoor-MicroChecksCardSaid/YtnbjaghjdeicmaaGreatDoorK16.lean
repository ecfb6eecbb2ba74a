/- The document's words on tables: At, Begin, Memories. -/
import Derived.Test.YtnbjaghjdeicmaaGreatDoorK15
import Derived.Test.YtnbjaghjdeicmaaGreatDoorK5
import Derived.Test.YtnbjaghjdeicmaaGreatDoorK11
import Derived.Test.YtnbjaghjdeicmaaGreatDoorK14
import Derived.Test.YtnbjaghjdeicmaaGreatDoorK10
import Derived.Test.YtnbjaghjdeicmaaGreatDoorK4
set_option maxRecDepth 100000
set_option maxHeartbeats 8000000
set_option linter.unusedSimpArgs false
namespace Go.Proofs.YtnbjaghjdeicmaaGreatDoor
open Go.RowKit
section
theorem zqX {α:Type} [DecidableEq α] (l:List α):(0< (l.length:Int))=((l == [])=false):=by
 rw [eq_iff_iff]
 cases l<;>simp
theorem zjm (env:Env) (c:ChD) (hn:c.states.length<=1000000) (i:Nat) (s:StD) (hs:c.states[i]? =some s) (hp: ¬s.parent= -1):Con Tryz.prog env 112 [.agg (chAV c),I i] (B (zav c i s)):=by
 have hi:i<c.states.length:=(List.getElem?_eq_some_iff.1 hs).1
 have k0:=nlt hi
 have f1:=zbQ env s.name
 have f2:=zjp env c s.name hn
 have f3:=zdw env c s.inn
 have f4:=zdw env c s.out
 have f5:=zbH env c (i:Int) true hn
 have f6:=zbH env c (i:Int) false hn
 have f7:=zbc env s
 have hlen:(kidsL c i true).length<=1000000:=by
  have:=za5 c i true c.states.length
  unfold kidsL
  omega
 have f8:=zk3 env (kidsL c i true) s.initial hlen
 have f9:=zfj env c (kidsL c i true) hlen (fun k hk=>(zeG hk).1)
 have z1:=zbU (kidsL c i true)
 have z2:=zqX (kidsL c i false)
 have z3:=zbU s.out
 have z4:=zbU s.inn
 refine zaa Tryz.func112 rfl Tryz.call112 (by rw [Tryz.ntmps112]; simp) ?_
 rw [Tryz.ntmps112,Tryz.results112]
 cases e1:zaI s.name
 ·rw [show zav c i s=false by unfold zav; rw [e1]; rfl]
  have F:=ai chAV.eq_1<|ai stAV.eq_1<|ai k0<|ai hs<|ai bneA<|e1
  repeat (first | refine st ?_ | refine cC f1 ?_)
  exact aR
 cases e2:(zhk c s.name==(i:Int))
 ·rw [show zav c i s=false by unfold zav; rw [e2]; simp]
  have F:=ai chAV.eq_1<|ai stAV.eq_1<|ai k0<|ai hs<|ai bneA<|ai e1<|e2
  repeat (first | refine st ?_ | refine cC f1 ?_ | refine cC f2 ?_)
  exact aR
 cases e3:zbO c.vars.length c.states.length s.inn
 ·rw [show zav c i s=false by unfold zav; rw [e3]; simp]
  have F:=ai chAV.eq_1<|ai stAV.eq_1<|ai k0<|ai hs<|ai bneA<|ai e1<|ai e2<|e3
  repeat (first | refine st ?_ | refine cC f1 ?_ | refine cC f2 ?_ | refine cC f3 ?_)
  exact aR
 cases e4:zbO c.vars.length c.states.length s.out
 ·rw [show zav c i s=false by unfold zav; rw [e4]; simp]
  have F:=ai chAV.eq_1<|ai stAV.eq_1<|ai k0<|ai hs<|ai bneA<|ai e1<|ai e2<|ai e3<|e4
  repeat (first | refine st ?_ | refine cC f1 ?_ | refine cC f2 ?_ | refine cC f3 ?_ | refine cC f4 ?_)
  exact aR
 have b0:=zbd hp
 by_cases p1:s.parent<0
 ·rw [show zav c i s=false by unfold zav zaP; rw [b0,decide_eq_false (show ¬0<=s.parent by omega)]; simp]
  have F:=ai chAV.eq_1<|ai stAV.eq_1<|ai k0<|ai hs<|ai bneA<|ai e1<|ai e2<|ai e3<|ai e4<|ai b0<|p1
  repeat (first | refine st ?_ | refine cC f1 ?_ | refine cC f2 ?_ | refine cC f3 ?_ | refine cC f4 ?_)
  exact aR
 obtain⟨m,hm⟩:=zd8 (show 0<=s.parent by omega)
 have p1: ¬(m:Int)<0:=by omega
 have b0:((m:Int) == -1)=false:=zbd (by omega)
 by_cases p2:(i:Int)<=(m:Int)
 ·rw [show zav c i s=false by unfold zav zaP; rw [hm,b0,decide_eq_false (show ¬(m:Int)<i by omega)]; simp]
  have F:=ai chAV.eq_1<|ai stAV.eq_1<|ai k0<|ai hs<|ai bneA<|ai e1<|ai e2<|ai e3<|ai e4<|ai hm<|ai b0<|ai p1<|p2
  repeat (first | refine st ?_ | refine cC f1 ?_ | refine cC f2 ?_ | refine cC f3 ?_ | refine cC f4 ?_)
  exact aR
 obtain⟨q,hq,_⟩:=zan (show m<c.states.length by omega)
 have p3:=nlt (show m<c.states.length by omega)
 have fn:=zc5 env q
 have hnq:zax c (m:Int)=zb2 q:=by unfold zax; rw [zbL,hq]
 cases p4:zb2 q
 ·rw [show zav c i s=false by unfold zav zaP; rw [hm,b0,hnq,p4]; simp]
  have F:=ai chAV.eq_1<|ai stAV.eq_1<|ai k0<|ai hs<|ai bneA<|ai e1<|ai e2<|ai e3<|ai e4<|ai hm<|ai b0<|ai p1<|ai p2<|ai p3<|ai p4<|hq
  repeat (first | refine st ?_ | refine cC f1 ?_ | refine cC f2 ?_ | refine cC f3 ?_ | refine cC f4 ?_ | refine cC fn ?_)
  exact aR
 have hpar:zaP c i s=true:=by unfold zaP; rw [hm,b0,hnq,p4]; simp; omega
 have hpp:((s.parent == -1)||zaO c s)=(false||zaO c s):=by rw [hm,b0]
 have fu:=zhw env c s (by omega)
 have g5:=zbH env c (m:Int) true hn
 have hlen2:(kidsL c m true).length<=1000000:=by
  have:=za5 c m true c.states.length
  unfold kidsL
  omega
 have g8:=zk3 env (kidsL c m true) s.initial hlen2
 have hst:zav c i s=zas c i s:=by unfold zav; rw [e1,e2,e3,e4,hpar]; simp
 rw [hst]
 by_cases hk1:s.kind=1
 ·cases e5:(kidsL c i true == [])
  ·rw [show zas c i s=inL (kidsL c i true) s.initial by unfold zas; rw [if_pos hk1,if_neg (by simpa using e5)]]
   have F:=ai chAV.eq_1<|ai stAV.eq_1<|ai k0<|ai hs<|ai bneA<|ai e1<|ai e2<|ai e3<|ai e4<|ai hm<|ai b0<|ai p1<|ai p2<|ai p3<|ai p4<|ai hq<|ai hk1<|ai z1<|e5
   repeat (first | refine st ?_ | refine cC f1 ?_ | refine cC f2 ?_ | refine cC f3 ?_ | refine cC f4 ?_ | refine cC fn ?_ | refine cC f5 ?_ | refine cC f8 ?_)
   exact aR
  ·rw [show zas c i s=(s.initial == -1) by unfold zas; rw [if_pos hk1,if_pos (by simpa using e5)]]
   have F:=ai chAV.eq_1<|ai stAV.eq_1<|ai k0<|ai hs<|ai bneA<|ai e1<|ai e2<|ai e3<|ai e4<|ai hm<|ai b0<|ai p1<|ai p2<|ai p3<|ai p4<|ai hq<|ai hk1<|ai z1<|e5
   repeat (first | refine st ?_ | refine cC f1 ?_ | refine cC f2 ?_ | refine cC f3 ?_ | refine cC f4 ?_ | refine cC fn ?_ | refine cC f5 ?_ | refine cC f8 ?_)
   exact aR
 have b1:=zbd hk1
 by_cases hk2:s.kind=2
 ·have hr:zas c i s=(((kidsL c i true).all fun k=>zax c k)&&decide (0< (kidsL c i true).length)&&(s.initial == -1)):=by unfold zas; rw [if_neg hk1,if_pos hk2]
  rw [hr]
  cases e5:(s.initial == -1)
  ·rw [Bool.and_false]
   have F:=ai chAV.eq_1<|ai stAV.eq_1<|ai k0<|ai hs<|ai bneA<|ai e1<|ai e2<|ai e3<|ai e4<|ai hm<|ai b0<|ai p1<|ai p2<|ai p3<|ai p4<|ai hq<|ai hk2<|e5
   repeat (first | refine st ?_ | refine cC f1 ?_ | refine cC f2 ?_ | refine cC f3 ?_ | refine cC f4 ?_ | refine cC fn ?_ | refine cC f5 ?_ | refine cC f9 ?_)
   exact aR
  ·rw [Bool.and_true]
   have F:=ai chAV.eq_1<|ai stAV.eq_1<|ai k0<|ai hs<|ai bneA<|ai e1<|ai e2<|ai e3<|ai e4<|ai hm<|ai b0<|ai p1<|ai p2<|ai p3<|ai p4<|ai hq<|ai hk2<|e5
   repeat (first | refine st ?_ | refine cC f1 ?_ | refine cC f2 ?_ | refine cC f3 ?_ | refine cC f4 ?_ | refine cC fn ?_ | refine cC f5 ?_ | refine cC f9 ?_)
   exact aR
 have b2:=zbd hk2
 cases e5:(kidsL c i false == [])
 ·rw [show zas c i s=false by unfold zas; rw [if_neg hk1,if_neg hk2,e5]; simp]
  have F:=ai chAV.eq_1<|ai stAV.eq_1<|ai k0<|ai hs<|ai bneA<|ai e1<|ai e2<|ai e3<|ai e4<|ai hm<|ai b0<|ai p1<|ai p2<|ai p3<|ai p4<|ai hq<|ai b1<|ai b2<|ai z2<|e5
  repeat (first | refine st ?_ | refine cC f1 ?_ | refine cC f2 ?_ | refine cC f3 ?_ | refine cC f4 ?_ | refine cC fn ?_ | refine cC f5 ?_ | refine cC f6 ?_)
  exact aR
 by_cases hk3:s.kind=3
 ·have hr:zas c i s=((kidsL c i false == [])&&((s.parent == -1)||zaO c s)&&(s.initial == -1)&&(s.out == [])):=by unfold zas; rw [if_neg hk1,if_neg hk2,if_pos hk3]
  rw [hr,e5,hpp]
  cases e6:(s.initial == -1)
  ·rw [Bool.and_false,Bool.false_and]
   have F:=ai chAV.eq_1<|ai stAV.eq_1<|ai k0<|ai hs<|ai bneA<|ai e1<|ai e2<|ai e3<|ai e4<|ai hm<|ai b0<|ai p1<|ai p2<|ai p3<|ai p4<|ai hq<|ai hk3<|ai z2<|ai e5<|e6
   repeat (first | refine st ?_ | refine cC f1 ?_ | refine cC f2 ?_ | refine cC f3 ?_ | refine cC f4 ?_ | refine cC fn ?_ | refine cC f5 ?_ | refine cC f6 ?_ | refine cC fu ?_)
   exact aR
  cases e7:(s.out == [])
  ·rw [Bool.and_false]
   have F:=ai chAV.eq_1<|ai stAV.eq_1<|ai k0<|ai hs<|ai bneA<|ai e1<|ai e2<|ai e3<|ai e4<|ai hm<|ai b0<|ai p1<|ai p2<|ai p3<|ai p4<|ai hq<|ai hk3<|ai z2<|ai z3<|ai e5<|ai e6<|e7
   repeat (first | refine st ?_ | refine cC f1 ?_ | refine cC f2 ?_ | refine cC f3 ?_ | refine cC f4 ?_ | refine cC fn ?_ | refine cC f5 ?_ | refine cC f6 ?_ | refine cC fu ?_)
   exact aR
  rw [Bool.true_and,Bool.and_true,Bool.and_true,Bool.false_or]
  have F:=ai chAV.eq_1<|ai stAV.eq_1<|ai k0<|ai hs<|ai bneA<|ai e1<|ai e2<|ai e3<|ai e4<|ai hm<|ai b0<|ai p1<|ai p2<|ai p3<|ai p4<|ai hq<|ai hk3<|ai z2<|ai z3<|ai e5<|ai e6<|e7
  repeat (first | refine st ?_ | refine cC f1 ?_ | refine cC f2 ?_ | refine cC f3 ?_ | refine cC f4 ?_ | refine cC fn ?_ | refine cC f5 ?_ | refine cC f6 ?_ | refine cC fu ?_)
  exact aR
 have b3:=zbd hk3
 by_cases hk45:s.kind=4\/s.kind=5
 ·have hr:zas c i s=((kidsL c i false == [])&&zaO c s&&inL (kidsL c s.parent true) s.initial&&(s.inn == [])&&(s.out == [])):=by unfold zas; rw [if_neg hk1,if_neg hk2,if_neg hk3,if_pos hk45]
  have e6:zay s=true:=by unfold zay; simpa using hk45
  rw [hr,e5,Bool.true_and]
  cases e7:zaO c s
  ·rw [Bool.false_and,Bool.false_and,Bool.false_and]
   have F:=ai chAV.eq_1<|ai stAV.eq_1<|ai k0<|ai hs<|ai bneA<|ai e1<|ai e2<|ai e3<|ai e4<|ai hm<|ai b0<|ai p1<|ai p2<|ai p3<|ai p4<|ai hq<|ai b1<|ai b2<|ai b3<|ai z2<|ai e5<|ai e6<|e7
   repeat (first | refine st ?_ | refine cC f1 ?_ | refine cC f2 ?_ | refine cC f3 ?_ | refine cC f4 ?_ | refine cC fn ?_ | refine cC f5 ?_ | refine cC f6 ?_ | refine cC f7 ?_ | refine cC fu ?_)
   exact aR
  rw [hm,Bool.true_and]
  cases e8:inL (kidsL c m true) s.initial
  ·rw [Bool.false_and,Bool.false_and]
   have F:=ai chAV.eq_1<|ai stAV.eq_1<|ai k0<|ai hs<|ai bneA<|ai e1<|ai e2<|ai e3<|ai e4<|ai hm<|ai b0<|ai p1<|ai p2<|ai p3<|ai p4<|ai hq<|ai b1<|ai b2<|ai b3<|ai z2<|ai e5<|ai e6<|ai e7<|e8
   repeat (first | refine st ?_ | refine cC f1 ?_ | refine cC f2 ?_ | refine cC f3 ?_ | refine cC f4 ?_ | refine cC fn ?_ | refine cC f5 ?_ | refine cC f6 ?_ | refine cC f7 ?_ | refine cC fu ?_ | refine cC g5 ?_ | refine cC g8 ?_)
   exact aR
  cases e9:(s.inn == [])
  ·rw [Bool.and_false,Bool.false_and]
   have F:=ai chAV.eq_1<|ai stAV.eq_1<|ai k0<|ai hs<|ai bneA<|ai e1<|ai e2<|ai e3<|ai e4<|ai hm<|ai b0<|ai p1<|ai p2<|ai p3<|ai p4<|ai hq<|ai b1<|ai b2<|ai b3<|ai z2<|ai z4<|ai e5<|ai e6<|ai e7<|ai e8<|e9
   repeat (first | refine st ?_ | refine cC f1 ?_ | refine cC f2 ?_ | refine cC f3 ?_ | refine cC f4 ?_ | refine cC fn ?_ | refine cC f5 ?_ | refine cC f6 ?_ | refine cC f7 ?_ | refine cC fu ?_ | refine cC g5 ?_ | refine cC g8 ?_)
   exact aR
  rw [Bool.true_and,Bool.true_and]
  have F:=ai chAV.eq_1<|ai stAV.eq_1<|ai k0<|ai hs<|ai bneA<|ai e1<|ai e2<|ai e3<|ai e4<|ai hm<|ai b0<|ai p1<|ai p2<|ai p3<|ai p4<|ai hq<|ai b1<|ai b2<|ai b3<|ai z2<|ai z3<|ai z4<|ai e5<|ai e6<|ai e7<|ai e8<|e9
  repeat (first | refine st ?_ | refine cC f1 ?_ | refine cC f2 ?_ | refine cC f3 ?_ | refine cC f4 ?_ | refine cC fn ?_ | refine cC f5 ?_ | refine cC f6 ?_ | refine cC f7 ?_ | refine cC fu ?_ | refine cC g5 ?_ | refine cC g8 ?_)
  exact aR
 have e6:zay s=false:=by unfold zay; simpa using hk45
 rw [show zas c i s=false by unfold zas; rw [if_neg hk1,if_neg hk2,if_neg hk3,if_neg hk45]]
 have F:=ai chAV.eq_1<|ai stAV.eq_1<|ai k0<|ai hs<|ai bneA<|ai e1<|ai e2<|ai e3<|ai e4<|ai hm<|ai b0<|ai p1<|ai p2<|ai p3<|ai p4<|ai hq<|ai b1<|ai b2<|ai b3<|ai z2<|ai e5<|e6
 repeat (first | refine st ?_ | refine cC f1 ?_ | refine cC f2 ?_ | refine cC f3 ?_ | refine cC f4 ?_ | refine cC fn ?_ | refine cC f5 ?_ | refine cC f6 ?_ | refine cC f7 ?_)
 exact aR
end
section
theorem zm8 (env:Env) (c:ChD) (hn:c.states.length<=1000000) (i:Nat) (s:StD) (hs:c.states[i]? =some s):Con Tryz.prog env 112 [.agg (chAV c),I i] (B (zav c i s)):=by
 by_cases hp:s.parent= -1
 ·exact zis env c hn i s hs hp
 ·exact zjm env c hn i s hs hp
theorem zoD (env:Env) (c:ChD) (t:TrD):Con Tryz.prog env 114 [.agg (chAV c), .agg (trAV t)] (B (zcH c t)):=by
 have f2:=zbQ env t.event
 have f3:=zjq env c t.guard
 have f4:=zdw env c t.acts
 have z1:=zbU t.guard
 refine zaa Tryz.func114 rfl Tryz.call114 (by rw [Tryz.ntmps114]; simp) ?_
 rw [Tryz.ntmps114,Tryz.results114]
 by_cases p1:t.src<0
 ·rw [show zcH c t=false by unfold zcH zax at_; rw [if_neg (show ¬0<=t.src by omega)]; rfl]
  have F:=ai chAV.eq_1<|ai trAV.eq_1<|p1
  repeat refine st ?_
  exact aR
 obtain⟨m,hm⟩:=zd8 (show 0<=t.src by omega)
 have p1: ¬(m:Int)<0:=by omega
 by_cases p2:c.states.length<=m
 ·have p2':(c.states.length:Int)<=(m:Int):=by omega
  rw [show zcH c t=false by unfold zcH zax; rw [hm,zbL,List.getElem?_eq_none p2]; rfl]
  have F:=ai chAV.eq_1<|ai trAV.eq_1<|ai hm<|ai p1<|p2'
  repeat refine st ?_
  exact aR
 have p2': ¬(c.states.length:Int)<=(m:Int):=by omega
 have k0:=nlt (show m<c.states.length by omega)
 obtain⟨q,hq,_⟩:=zan (show m<c.states.length by omega)
 have f1:=zc5 env q
 have hnq:zax c t.src=zb2 q:=by unfold zax; rw [hm,zbL,hq]
 have hr:zcH c t=(zb2 q&&((t.event == [])||zaI t.event)&&((t.guard == [])||zaU t.guard c.vars.length c.states.length)&&zbO c.vars.length c.states.length t.acts&&((t.target == -1)||(decide (0<=t.target)&&decide (t.target<c.states.length)))):=by unfold zcH; rw [hnq]
 rw [hr]
 cases e1:zb2 q
 ·rw [Bool.false_and,Bool.false_and,Bool.false_and,Bool.false_and]
  have F:=ai chAV.eq_1<|ai trAV.eq_1<|ai stAV.eq_1<|ai hm<|ai hq<|ai p1<|ai p2'<|ai k0<|e1
  repeat (first | refine st ?_ | refine cC f1 ?_)
  exact aR
 by_cases p3:t.target< -1
 ·rw [show ((t.target == -1)||(decide (0<=t.target)&&decide (t.target<c.states.length)))=false by rw [zbd (show t.target≠ -1 by omega),decide_eq_false (show ¬0<=t.target by omega)]; rfl,Bool.and_false]
  have F:=ai chAV.eq_1<|ai trAV.eq_1<|ai stAV.eq_1<|ai hm<|ai hq<|ai p1<|ai p2'<|ai k0<|ai e1<|p3
  repeat (first | refine st ?_ | refine cC f1 ?_)
  exact aR
 by_cases p4:(c.states.length:Int)<=t.target
 ·rw [show ((t.target == -1)||(decide (0<=t.target)&&decide (t.target<c.states.length)))=false by rw [zbd (show t.target≠ -1 by omega),decide_eq_false (show ¬t.target<c.states.length by omega)]; simp,Bool.and_false]
  have F:=ai chAV.eq_1<|ai trAV.eq_1<|ai stAV.eq_1<|ai hm<|ai hq<|ai p1<|ai p2'<|ai k0<|ai e1<|ai p3<|p4
  repeat (first | refine st ?_ | refine cC f1 ?_)
  exact aR
 rw [show ((t.target == -1)||(decide (0<=t.target)&&decide (t.target<c.states.length)))=true by rw [Bool.or_eq_true,Bool.and_eq_true]; simp; omega,Bool.and_true,Bool.true_and]
 cases e2:(t.event == [])
 ·rw [Bool.false_or]
  cases e3:zaI t.event
  ·rw [Bool.false_and,Bool.false_and]
   have F:=ai chAV.eq_1<|ai trAV.eq_1<|ai stAV.eq_1<|ai hm<|ai hq<|ai p1<|ai p2'<|ai k0<|ai e1<|ai p3<|ai p4<|ai e2<|e3
   repeat (first | refine st ?_ | refine cC f1 ?_ | refine cC f2 ?_)
   exact aR
  rw [Bool.true_and]
  cases e4:(t.guard == [])
  ·rw [Bool.false_or]
   cases e5:zaU t.guard c.vars.length c.states.length
   ·rw [Bool.false_and]
    have F:=ai chAV.eq_1<|ai trAV.eq_1<|ai stAV.eq_1<|ai hm<|ai hq<|ai p1<|ai p2'<|ai k0<|ai e1<|ai p3<|ai p4<|ai e2<|ai e3<|ai z1<|ai e4<|e5
    repeat (first | refine st ?_ | refine cC f1 ?_ | refine cC f2 ?_ | refine cC f3 ?_ | refine cC f4 ?_)
    exact aR
   ·rw [Bool.true_and]
    have F:=ai chAV.eq_1<|ai trAV.eq_1<|ai stAV.eq_1<|ai hm<|ai hq<|ai p1<|ai p2'<|ai k0<|ai e1<|ai p3<|ai p4<|ai e2<|ai e3<|ai z1<|ai e4<|e5
    repeat (first | refine st ?_ | refine cC f1 ?_ | refine cC f2 ?_ | refine cC f3 ?_ | refine cC f4 ?_)
    exact aR
  ·rw [Bool.true_or,Bool.true_and]
   have F:=ai chAV.eq_1<|ai trAV.eq_1<|ai stAV.eq_1<|ai hm<|ai hq<|ai p1<|ai p2'<|ai k0<|ai e1<|ai p3<|ai p4<|ai e2<|ai e3<|ai z1<|e4
   repeat (first | refine st ?_ | refine cC f1 ?_ | refine cC f2 ?_ | refine cC f3 ?_ | refine cC f4 ?_)
   exact aR
 rw [Bool.true_or,Bool.true_and]
 cases e4:(t.guard == [])
 ·rw [Bool.false_or]
  cases e5:zaU t.guard c.vars.length c.states.length
  ·rw [Bool.false_and]
   have F:=ai chAV.eq_1<|ai trAV.eq_1<|ai stAV.eq_1<|ai hm<|ai hq<|ai p1<|ai p2'<|ai k0<|ai e1<|ai p3<|ai p4<|ai e2<|ai z1<|ai e4<|e5
   repeat (first | refine st ?_ | refine cC f1 ?_ | refine cC f2 ?_ | refine cC f3 ?_ | refine cC f4 ?_)
   exact aR
  ·rw [Bool.true_and]
   have F:=ai chAV.eq_1<|ai trAV.eq_1<|ai stAV.eq_1<|ai hm<|ai hq<|ai p1<|ai p2'<|ai k0<|ai e1<|ai p3<|ai p4<|ai e2<|ai z1<|ai e4<|e5
   repeat (first | refine st ?_ | refine cC f1 ?_ | refine cC f2 ?_ | refine cC f3 ?_ | refine cC f4 ?_)
   exact aR
 ·rw [Bool.true_or,Bool.true_and]
  have F:=ai chAV.eq_1<|ai trAV.eq_1<|ai stAV.eq_1<|ai hm<|ai hq<|ai p1<|ai p2'<|ai k0<|ai e1<|ai p3<|ai p4<|ai e2<|ai z1<|e4
  repeat (first | refine st ?_ | refine cC f1 ?_ | refine cC f2 ?_ | refine cC f3 ?_ | refine cC f4 ?_)
  exact aR
abbrev chkT (c:ChD):AV:= .tuple [I (chk c).1,I (chk c).2]
theorem zbZ {c:ChD} {x:Int×Int} (h:chk c=x):chkT c= .tuple [I x.1,I x.2]:=by unfold chkT; rw [h]
theorem zm9 (env:Env) (c:ChD):Con Tryz.prog env 45 [.agg (chAV c)] (chkT c):=by
 have fname:=zbQ env c.name
 have z1:=zbU c.states
 refine zaa Tryz.func45 rfl Tryz.call45 (by rw [Tryz.ntmps45]; simp) ?_
 rw [Tryz.ntmps45,Tryz.results45]
 by_cases l1:32<c.states.length
 ·have k1:(32:Int)< (c.states.length:Int):=by omega
  rw [zbZ (show chk c=(8, -1) by unfold chk; rw [if_pos (.inl l1)])]
  have F:=ai chAV.eq_1<|k1
  repeat refine st ?_
  exact aR
 have k1: ¬(32:Int)< (c.states.length:Int):=by omega
 by_cases l2:64<c.trans.length
 ·have k2:(64:Int)< (c.trans.length:Int):=by omega
  rw [zbZ (show chk c=(8, -1) by unfold chk; rw [if_pos (.inr (.inl l2))])]
  have F:=ai chAV.eq_1<|ai k1<|k2
  repeat refine st ?_
  exact aR
 have k2: ¬(64:Int)< (c.trans.length:Int):=by omega
 by_cases l3:8<c.vars.length
 ·have k3:(8:Int)< (c.vars.length:Int):=by omega
  rw [zbZ (show chk c=(8, -1) by unfold chk; rw [if_pos (.inr (.inr l3))])]
  have F:=ai chAV.eq_1<|ai k1<|ai k2<|k3
  repeat refine st ?_
  exact aR
 have k3: ¬(8:Int)< (c.vars.length:Int):=by omega
 have hl: ¬(32<c.states.length\/64<c.trans.length\/8<c.vars.length):=by omega
 cases e2:(c.states == [])
 case true=>
  rw [zbZ (show chk c=(1, -1) by unfold chk; rw [if_neg hl,if_pos (.inl (by simpa using e2))])]
  have F:=ai chAV.eq_1<|ai k1<|ai k2<|ai k3<|ai z1<|e2
  repeat (first | refine st ?_ | refine cC fname ?_)
  exact aR
 cases e1:zaI c.name
 ·rw [zbZ (show chk c=(1, -1) by unfold chk; rw [if_neg hl,if_pos (.inr e1)])]
  have F:=ai chAV.eq_1<|ai k1<|ai k2<|ai k3<|ai z1<|ai e2<|e1
  repeat (first | refine st ?_ | refine cC fname ?_)
  exact aR
 have hne: ¬(c.states=[]\/zaI c.name=false):=by
  rw [e1]
  simpa using e2
 have hc1:chk c=(match zaE (zeO c) c.vars.length with
  | some i=>(1,2000+(i:Int))
  | none=>match zaE (zfE c) c.states.length with
    | some i=>(1,(i:Int))
    | none=>if topB c=false then(1, -1) else match zaE (ziV c) c.trans.length with
      | some i=>(1,1000+(i:Int))
      | none=>(0, -1)):=by
  unfold chk
  rw [if_neg hl,if_neg hne]
  rfl
 have F:=ai chAV.eq_1<|ai k1<|ai k2<|ai k3<|ai z1<|ai e2<|e1
 repeat (first | refine st ?_ | refine cC fname ?_)
 refine zac (D:=Nat) (fun i vs=>[(1, .loc 1 (vs 1) 0 0),(4,I i)]) (fun _ _=>[(1,⟨5,[chAV c],26,false⟩)]) (fun i _ _=>i<=c.vars.length/\ ∀j,j<i->zeO c j=true) (fun i=>c.vars.length-i) 0 ?_ ?_ ?_ ?_
 ·exact⟨Nat.zero_le _,fun j hj=>by omega⟩
 ·(simp only [go_sem,F])
 ·have F:=chAV.eq_1
  (simp only [go_sem,F])
 rintro i ws esc ⟨hi,hall⟩
 by_cases hlt:i<c.vars.length
 ·obtain⟨v,hv,_⟩:=zan hlt
  have q1:=nlt hlt
  have q2:=zab hlt (by omega)
  have hcon:=zqV env c (by omega) i v hv
  cases e:varB c i v
  ·have q3:IntKind.i64.wrap (2000+(i:Int))=2000+(i:Int):=zbn (by omega) (by omega)
   rw [zbZ (show chk c=(1,2000+(i:Int)) by rw [hc1,zbu hlt hall (by rw [zeN hv]; exact e)])]
   have F:=ai chAV.eq_1<|ai q1<|ai q2<|ai q3<|e
   repeat (first | refine st ?_ | refine cC hcon ?_)
   exact aR
  ·have F:=ai chAV.eq_1<|ai q1<|ai q2<|e
   repeat (first | refine st ?_ | refine cC hcon ?_)
   refine⟨i+1,⟨hlt,zcO hall (by rw [zeN hv]; exact e)⟩, ?_, ?_, ?_⟩
   ·(simp only [go_sem,F])
   ·have F:=chAV.eq_1
    (simp only [go_sem,F])
   ·omega
 have q1: ¬(i:Int)< (c.vars.length:Int):=by omega
 have hvn:zaE (zeO c) c.vars.length=none:=zaD fun j hj=>hall j (by omega)
 rw [hvn] at hc1
 have F:=ai chAV.eq_1<|q1
 repeat refine st ?_
 refine zac (D:=Nat) (fun i vs=>[(1, .loc 1 (vs 1) 0 0),(5,I i)]) (fun _ _=>[(1,⟨5,[chAV c],26,false⟩)]) (fun i _ _=>i<=c.states.length/\ ∀j,j<i->zfE c j=true) (fun i=>c.states.length-i) 0 ?_ ?_ ?_ ?_
 ·exact⟨Nat.zero_le _,fun j hj=>by omega⟩
 ·(simp only [go_sem,F])
 ·have F:=chAV.eq_1
  (simp only [go_sem,F])
 try clear ws esc hi hall q1 hlt i
 rintro i ws esc ⟨hi,hall⟩
 by_cases hlt:i<c.states.length
 ·obtain⟨s,hs,_⟩:=zan hlt
  have q1:=nlt hlt
  have q2:=zab hlt (by omega)
  have hcon:=zm8 env c (by omega) i s hs
  cases e:zav c i s
  ·rw [zbZ (show chk c=(1,(i:Int)) by rw [hc1,zbu hlt hall (by rw [zfS hs]; exact e)])]
   have F:=ai chAV.eq_1<|ai q1<|ai q2<|e
   repeat (first | refine st ?_ | refine cC hcon ?_)
   exact aR
  ·have F:=ai chAV.eq_1<|ai q1<|ai q2<|e
   repeat (first | refine st ?_ | refine cC hcon ?_)
   refine⟨i+1,⟨hlt,zcO hall (by rw [zfS hs]; exact e)⟩, ?_, ?_, ?_⟩
   ·(simp only [go_sem,F])
   ·have F:=chAV.eq_1
    (simp only [go_sem,F])
   ·omega
 have q1: ¬(i:Int)< (c.states.length:Int):=by omega
 have hsn:zaE (zfE c) c.states.length=none:=zaD fun j hj=>hall j (by omega)
 rw [hsn] at hc1
 by_cases p1:c.initial<0
 ·have ht:topB c=false:=by unfold topB at_; rw [if_neg (by omega)]
  rw [zbZ (show chk c=(1, -1) by rw [hc1,if_pos ht])]
  have F:=ai chAV.eq_1<|ai q1<|p1
  repeat refine st ?_
  exact aR
 obtain⟨m,hm⟩:=zd8 (show 0<=c.initial by omega)
 have p1': ¬(m:Int)<0:=by omega
 by_cases p2:(c.states.length:Int)<=(m:Int)
 ·have ht:topB c=false:=by unfold topB; rw [hm,zbL,List.getElem?_eq_none (by omega)]
  rw [zbZ (show chk c=(1, -1) by rw [hc1,if_pos ht])]
  have F:=ai chAV.eq_1<|ai q1<|ai hm<|ai p1'<|p2
  repeat refine st ?_
  exact aR
 have p3:=nlt (show m<c.states.length by omega)
 obtain⟨q,hq,_⟩:=zan (show m<c.states.length by omega)
 have fnorm:=zc5 env q
 have htop:topB c=((q.parent == -1)&&zb2 q):=by unfold topB; rw [hm,zbL,hq]
 cases e3:(q.parent == -1)
 ·rw [zbZ (show chk c=(1, -1) by rw [hc1,if_pos (by rw [htop,e3]; rfl)])]
  have F:=ai chAV.eq_1<|ai stAV.eq_1<|ai q1<|ai hm<|ai p1'<|ai p2<|ai p3<|ai hq<|ai e3<|bneA
  repeat (first | refine st ?_ | refine cC fnorm ?_)
  exact aR
 cases e4:zb2 q
 ·rw [zbZ (show chk c=(1, -1) by rw [hc1,if_pos (by rw [htop,e3,e4]; rfl)])]
  have F:=ai chAV.eq_1<|ai stAV.eq_1<|ai q1<|ai hm<|ai p1'<|ai p2<|ai p3<|ai hq<|ai e3<|ai e4<|bneA
  repeat (first | refine st ?_ | refine cC fnorm ?_)
  exact aR
 rw [if_neg (by rw [htop,e3,e4]; simp)] at hc1
 have F:=ai chAV.eq_1<|ai stAV.eq_1<|ai q1<|ai hm<|ai p1'<|ai p2<|ai p3<|ai hq<|ai e3<|ai e4<|bneA
 repeat (first | refine st ?_ | refine cC fnorm ?_)
 refine zac (D:=Nat) (fun i vs=>[(1, .loc 1 (vs 1) 0 0),(6,I i)]) (fun _ _=>[(1,⟨5,[chAV c],26,false⟩)]) (fun i _ _=>i<=c.trans.length/\ ∀j,j<i->ziV c j=true) (fun i=>c.trans.length-i) 0 ?_ ?_ ?_ ?_
 ·exact⟨Nat.zero_le _,fun j hj=>by omega⟩
 ·have F:=ai chAV.eq_1<|hm
  (simp only [go_sem,F])
 ·have F:=ai chAV.eq_1<|hm
  (simp only [go_sem,F])
 try clear ws esc hi hall q1 hlt i
 rintro i ws esc ⟨hi,hall⟩
 by_cases hlt:i<c.trans.length
 ·obtain⟨t,ht,_⟩:=zan hlt
  have q1:=nlt hlt
  have q2:=zab hlt (by omega)
  have hcon:=zoD env c t
  cases e:zcH c t
  ·have q3:IntKind.i64.wrap (1000+(i:Int))=1000+(i:Int):=zbn (by omega) (by omega)
   rw [zbZ (show chk c=(1,1000+(i:Int)) by rw [hc1,zbu hlt hall (by rw [zfR ht]; exact e)])]
   have F:=ai chAV.eq_1<|ai trAV.eq_1<|ai q1<|ai q2<|ai q3<|ai ht<|e
   repeat (first | refine st ?_ | refine cC hcon ?_)
   exact aR
  ·have F:=ai chAV.eq_1<|ai trAV.eq_1<|ai q1<|ai q2<|ai ht<|e
   repeat (first | refine st ?_ | refine cC hcon ?_)
   refine⟨i+1,⟨hlt,zcO hall (by rw [zfR ht]; exact e)⟩, ?_, ?_, ?_⟩
   ·(simp only [go_sem,F])
   ·have F:=chAV.eq_1
    (simp only [go_sem,F])
   ·omega
 have q1: ¬(i:Int)< (c.trans.length:Int):=by omega
 rw [zbZ (show chk c=(0, -1) by rw [hc1,zaD fun j hj=>hall j (by omega)])]
 have F:=ai chAV.eq_1<|q1
 repeat refine st ?_
 exact aR
end
section
theorem zjg (env:Env) (l m:List Nat) (hl:l.length<=1000000):Con Tryz.prog env 31 [.seq 1 (l.map zaf), .seq 1 (m.map zaf)] (B (decide (l=m))):=by
 by_cases h0:l.length=m.length
 ·refine zaa Tryz.func31 rfl Tryz.call31 (by rw [Tryz.ntmps31]; simp) ?_
  rw [Tryz.ntmps31,Tryz.results31]
  have g0:((l.length:Int) != (m.length:Int))=false:=by simp [h0]
  have F:=g0
  repeat refine st ?_
  refine zac (D:=Nat) (fun j _=>[(0, .seq 1 (l.map zaf)),(1, .seq 1 (m.map zaf)),(4,B false),(5,I j)]) (fun _ _=>[]) (fun j _ _=>j<=l.length/\l.take j=m.take j) (fun j=>l.length-j) 0 ?_ ?_ ?_ ?_
  ·exact⟨Nat.zero_le _,rfl⟩
  ·(simp only [go_sem,F])
  ·(simp only [go_sem,F])
  rintro j ws esc ⟨hj,ht⟩
  by_cases hlt:j<l.length
  ·have hlt2:j<m.length:=by omega
   obtain⟨a,ha⟩: ∃a,l[j]? =some a:=⟨l[j],List.getElem?_eq_getElem hlt⟩
   obtain⟨b,hb⟩: ∃b,m[j]? =some b:=⟨m[j],List.getElem?_eq_getElem hlt2⟩
   have g1:=nlt hlt
   have g4:=nlt hlt2
   have g2:=zab hlt (by omega)
   by_cases e:a=b
   ·have g3:((a:Int) != (b:Int))=false:=by simp [e]
    have F:=ai g1<|ai g2<|ai g4<|ai ha<|ai hb<|ai zaf.eq_1<|g3
    repeat refine st ?_
    refine⟨j+1,⟨hlt, ?_⟩, ?_, ?_,by omega⟩
    ·rw [List.take_add_one,List.take_add_one,ht,ha,hb,e]
    ·(simp only [go_sem,F])
    ·(simp only [go_sem,F])
   ·have g3:((a:Int) != (b:Int))=true:=by simp; omega
    have hr:decide (l=m)=false:=decide_eq_false fun e2=>e (by rw [e2] at ha; exact Option.some.inj (ha.symm.trans hb))
    rw [hr]
    have F:=ai g1<|ai g2<|ai g4<|ai ha<|ai hb<|ai zaf.eq_1<|g3
    repeat refine st ?_
    exact aR
  ·obtain rfl:j=l.length:=by omega
   have g1: ¬(l.length:Int)< (l.length:Int):=by omega
   have hr:decide (l=m)=true:=decide_eq_true (by rwa [List.take_length,List.take_of_length_le (by omega)] at ht)
   rw [hr]
   have F:=g1
   repeat refine st ?_
   exact aR
 ·have g0:((l.length:Int) != (m.length:Int))=true:=by simp; omega
  have hr:decide (l=m)=false:=decide_eq_false fun e=>h0 (by rw [e])
  rw [hr]
  refine zaa Tryz.func31 rfl Tryz.call31 (by rw [Tryz.ntmps31]; simp) ?_
  rw [Tryz.ntmps31,Tryz.results31]
  have F:=g0
  repeat refine st ?_
  exact aR
theorem zk2 (env:Env) (c:ChD) (i:Int):Con Tryz.prog env 151 [.agg (chAV c),I i] (B (inZ c i)):=by
 unfold inZ
 by_cases h0:0<=i
 ·by_cases h1:i< (c.states.length:Int)
  ·refine zaa Tryz.func151 rfl Tryz.call151 (by rw [Tryz.ntmps151]; simp) ?_
   rw [Tryz.ntmps151,Tryz.results151]
   have F:=ai chAV.eq_1<|ai h0<|h1
   repeat refine st ?_
   exact aR
  ·refine zaa Tryz.func151 rfl Tryz.call151 (by rw [Tryz.ntmps151]; simp) ?_
   rw [Tryz.ntmps151,Tryz.results151]
   have F:=ai chAV.eq_1<|ai h0<|h1
   repeat refine st ?_
   exact aR
 ·refine zaa Tryz.func151 rfl Tryz.call151 (by rw [Tryz.ntmps151]; simp) ?_
  rw [Tryz.ntmps151,Tryz.results151]
  have F:=ai chAV.eq_1<|h0
  repeat refine st ?_
  exact aR
theorem za8 {c:ChD} (h:Right c) (i:Int) (real:Bool):(kidsL c i real).length<=32:=by
 have h1:=za5 c i real c.states.length
 have h2:=h.few
 have h1:(kidsL c i real).length<=c.states.length:=h1
 omega
theorem zqI {c:ChD} (h:Right c) {i:Int} (hi: -1<=i):(walkL c i).length<=32:=by
 have hf:=h.few
 have:=(zdL h 40 i hi (by omega)).length_le_of_subset (l₂:=List.range c.states.length) fun m hm=>List.mem_range.2 ((zdM h 40 i m hi (by omega)).1 hm).1
 simp at this
 omega
end
section
theorem znQ (env:Env):Con Tryz.prog env 93 [nilS] (.own 3 1 []):=(zbX env [] (by simp)).args (Strs.cons (Str.nil 1) Strs.nil)
theorem zaN (env:Env) (c:ChD):Con Tryz.prog env 140 [zaj c] (zao c):=by
 refine zaa Tryz.func140 rfl Tryz.call140 (by rw [Tryz.ntmps140]; simp) ?_
 rw [Tryz.ntmps140,Tryz.results140]
 have F:=ai zaj.eq_1<|ai tabCells.eq_1<|zao.eq_1
 repeat refine st ?_
 exact aR
theorem zaA (env:Env) (c:ChD) (hs:Small c):Con Tryz.prog env 64 [zaj c] (.agg (chAV c)):=by
 have f0:=zgq env c hs
 unfold chAV at f0
 refine zaa Tryz.func64 rfl Tryz.call64 (by rw [Tryz.ntmps64]; simp) ?_
 rw [Tryz.ntmps64,Tryz.results64]
 have F:=ai zaj.eq_1<|tabCells.eq_1
 repeat (first | refine st ?_ | refine cC f0 ?_)
 (refine zae ?_; show (zar _ _ _).run _=some _; simp only [go_sem,F])
 rfl
theorem zi9 (env:Env) (c:ChD) (hc:c.trans.length<=4096) (s:List UInt8):Con Tryz.prog env 52 [zaj c,Sg s] (I (evI c s)):=zj9 env c (by omega) _ _ s
def tatL (c:ChD) (i e:Int):List Nat:=if e<0 then [] else atL c i e
theorem zsT (c:ChD) (i e:Int):(atL c i e).length<=c.trans.length:=zoy ..
theorem zrQ {c:ChD} {i e:Int} {q:Nat} (hq:idxP (i,e) (keysTo c c.trans.length) 0=some q):(zcg c)[q]? =some [.agg [I i,I e], .seq 1 ((atL c i e).map zaf)]:=by
 have:=(zgG hq).2
 unfold zcg
 rw [List.getElem?_map,Nat.sub_zero] at*
 rw [this]
 rfl
theorem zom (env:Env) (c:ChD) (hc:c.trans.length<=4096) (i e:Int):Con Tryz.prog env 229 [zaj c,I i,I e] (.own 3 1 ((tatL c i e).map zaf)):=by
 have hl:=zsT c i e
 have hm:=zsz c i e
 unfold tatL
 by_cases h:e<0
 ·rw [if_pos h]
  refine zap Tryz.func229 rfl Tryz.call229 (by rw [Tryz.ntmps229]; simp) ?_
  rw [Tryz.ntmps229,Tryz.results229]
  have F:=ai zaj.eq_1<|ai tabCells.eq_1<|h
  repeat refine st ?_
  (refine zae ?_; refine⟨_,(by show (zar _ _ _).run _=some _; simp only [go_sem,F]; rfl), ?_⟩)
  exact RStr.own_nil _ _ (by decide)
 ·rw [if_neg h]
  cases hq:idxP (i,e) (keysTo c c.trans.length) 0 with
  | none=>
    rw [hq] at hm
    have f0:=znQ env
    rw [show atL c i e=[] from zlP (zgH hq)]
    refine zaa Tryz.func229 rfl Tryz.call229 (by rw [Tryz.ntmps229]; simp) ?_
    rw [Tryz.ntmps229,Tryz.results229]
    have F:=ai zaj.eq_1<|ai tabCells.eq_1<|ai h<|hm
    repeat (first | refine st ?_ | refine cC f0 ?_)
    exact aR
  | some q=>
    rw [hq] at hm
    have hk:=zrQ hq
    have f0:=zbX env ((atL c i e).map zaf) (by rw [List.length_map]; omega)
    refine zaa Tryz.func229 rfl Tryz.call229 (by rw [Tryz.ntmps229]; simp) ?_
    rw [Tryz.ntmps229,Tryz.results229]
    have F:=ai zaj.eq_1<|ai tabCells.eq_1<|ai h<|ai hm<|hk
    repeat (first | refine st ?_ | refine cC f0 ?_)
    exact aR
theorem zet (env:Env) (c:ChD) (i:Int):Con Tryz.prog env 169 [zaj c,I i] (B (inZ c i)):=by
 unfold inZ
 by_cases h0:0<=i
 ·by_cases h1:i< (c.states.length:Int)
  ·refine zaa Tryz.func169 rfl Tryz.call169 (by rw [Tryz.ntmps169]; simp) ?_
   rw [Tryz.ntmps169,Tryz.results169]
   have F:=ai zaj.eq_1<|ai tabCells.eq_1<|ai h0<|h1
   repeat refine st ?_
   exact aR
  ·refine zaa Tryz.func169 rfl Tryz.call169 (by rw [Tryz.ntmps169]; simp) ?_
   rw [Tryz.ntmps169,Tryz.results169]
   have F:=ai zaj.eq_1<|ai tabCells.eq_1<|ai h0<|h1
   repeat refine st ?_
   exact aR
 ·refine zaa Tryz.func169 rfl Tryz.call169 (by rw [Tryz.ntmps169]; simp) ?_
  rw [Tryz.ntmps169,Tryz.results169]
  have F:=ai zaj.eq_1<|ai tabCells.eq_1<|h0
  repeat refine st ?_
  exact aR
def zsn (c:ChD) (i:Int):List Nat:=if inZ c (if i= -1 then c.initial else i)=true then sbL c (if i= -1 then c.initial else i).toNat else []
theorem zja (env:Env) (c:ChD) (h:Full c) (i:Int):Con Tryz.prog env 86 [zaj c,I i] (.own 3 1 ((zsn c i).map zaf)):=by
 have hlen:=h.few
 unfold zsn
 by_cases e:i= -1
 ·subst e
  simp only [if_true]
  obtain⟨s,hs,hini,_⟩:=h.topS
  have hi:=(List.getElem?_eq_some_iff.1 hs).1
  have f0:=zet env c c.initial
  have hz:inZ c c.initial=true:=by rw [hini]; exact zaR.2 hi
  rw [hz] at f0
  rw [hz,if_pos rfl]
  have f1:=zbX env ((sbL c (iniN c)).map zaf) (by rw [List.length_map]; have:=zr1 h (iniN c); omega)
  have hb:(begE c c.states.length)[iniN c]? =some [.seq 1 ((sbL c (iniN c)).map zaf)]:=by unfold begE; rw [List.getElem?_map,List.getElem?_range hi]; rfl
  have hbl:(begE c c.states.length).length=c.states.length:=by simp [begE]
  have g0:((iniN c:Nat):Int)< (c.states.length:Int):=by omega
  rw [hini] at f0 |-
  rw [Int.toNat_natCast]
  unfold zaj tabCells at f0 |-
  rw [hini] at f0 |-
  refine zaa Tryz.func86 rfl Tryz.call86 (by rw [Tryz.ntmps86]; simp) ?_
  rw [Tryz.ntmps86,Tryz.results86]
  have F:=ai hb<|ai hbl<|g0
  repeat (first | refine st ?_ | refine cC f0 ?_ | refine cC f1 ?_)
  exact aR
 ·rw [if_neg e]
  have e1:(i == -1)=false:=by simpa using e
  have f0:=zet env c i
  cases hz:inZ c i with
  | false=>
    rw [hz] at f0
    rw [if_neg (by simp)]
    unfold zaj tabCells at f0 |-
    refine zap Tryz.func86 rfl Tryz.call86 (by rw [Tryz.ntmps86]; simp) ?_
    rw [Tryz.ntmps86,Tryz.results86]
    have F:=e1
    repeat (first | refine st ?_ | refine cC f0 ?_)
    (refine zae ?_; refine⟨_,(by show (zar _ _ _).run _=some _; simp only [go_sem,F]; rfl), ?_⟩)
    exact RStr.own_nil _ _ (by decide)
  | true=>
    obtain⟨k,s,rfl,hs,ha⟩:=zcD hz
    have hi:=(List.getElem?_eq_some_iff.1 hs).1
    rw [hz] at f0
    rw [if_pos rfl,Int.toNat_natCast]
    have f1:=zbX env ((sbL c k).map zaf) (by rw [List.length_map]; have:=zr1 h k; omega)
    have hb:(begE c c.states.length)[k]? =some [.seq 1 ((sbL c k).map zaf)]:=by unfold begE; rw [List.getElem?_map,List.getElem?_range hi]; rfl
    have hbl:(begE c c.states.length).length=c.states.length:=by simp [begE]
    have g0:((k:Nat):Int)< (c.states.length:Int):=by omega
    unfold zaj tabCells at f0 |-
    refine zaa Tryz.func86 rfl Tryz.call86 (by rw [Tryz.ntmps86]; simp) ?_
    rw [Tryz.ntmps86,Tryz.results86]
    have F:=ai hb<|ai hbl<|ai g0<|e1
    repeat (first | refine st ?_ | refine cC f0 ?_ | refine cC f1 ?_)
    exact aR
theorem zaX (env:Env) (c:ChD) (h:Full c) (i:Int):Con Tryz.prog env 175 [zaj c,I i] (.own 3 1 ((if i= -1\/inZ c i=true then kidsL c i true else []).map zaf)):=by
 have hlen:=h.few
 have f0:=zet env c i
 have f1:=zcU env c i (by omega)
 unfold chAV at f1
 unfold zaj tabCells at f0 |-
 by_cases e:i= -1
 ·subst e
  have hz:inZ c (-1)=false:=by unfold inZ; simp
  rw [hz] at f0
  rw [if_pos (.inl rfl)]
  refine zaa Tryz.func175 rfl Tryz.call175 (by rw [Tryz.ntmps175]; simp) ?_
  rw [Tryz.ntmps175,Tryz.results175]
  repeat (first | refine st0 ?_ | refine cC0 f0 ?_ | refine cC0 f1 ?_)
  exact aR0
 ·have e1:(i != -1)=true:=by simpa using e
  cases hz:inZ c i with
  | false=>
    rw [hz] at f0
    rw [if_neg (by simp [e])]
    refine zap Tryz.func175 rfl Tryz.call175 (by rw [Tryz.ntmps175]; simp) ?_
    rw [Tryz.ntmps175,Tryz.results175]
    have F:=e1
    repeat (first | refine st ?_ | refine cC f0 ?_ | refine cC f1 ?_)
    (refine zae ?_; refine⟨_,(by show (zar _ _ _).run _=some _; simp only [go_sem,F]; rfl), ?_⟩)
    exact RStr.own_nil _ _ (by decide)
  | true=>
    rw [hz] at f0
    rw [if_pos (.inr rfl)]
    refine zaa Tryz.func175 rfl Tryz.call175 (by rw [Tryz.ntmps175]; simp) ?_
    rw [Tryz.ntmps175,Tryz.results175]
    have F:=e1
    repeat (first | refine st ?_ | refine cC f0 ?_ | refine cC f1 ?_)
    exact aR
def memP (c:ChD) (i:Int) (k:Nat):Bool:=match c.states[k]? with
 | some s=>inZ c i&&((s.parent==i)&&zay s)
 | none=>false
def memL (c:ChD) (i:Int):List Nat:=(List.range c.states.length).filter (memP c i)
theorem zra {c:ChD} (i:Int) (hz:inZ c i=true):memL c i=(kidsL c i false).filter fun k:Nat=> !inL (kidsL c i true) (k:Int):=by
 unfold memL kidsL za1
 rw [List.filter_filter]
 apply List.filter_congr
 intro k hk
 have hk:=List.mem_range.1 hk
 obtain⟨s,hs⟩: ∃s,c.states[k]? =some s:=⟨c.states[k],List.getElem?_eq_getElem hk⟩
 have e1:zbW c i false k=(s.parent==i):=by unfold zbW; rw [hs]; simp
 have e2:inL ((List.range c.states.length).filter (zbW c i true)) (k:Int)=((s.parent==i)&& !zay s):=by
  rw [Bool.eq_iff_iff,zlm]
  constructor
  ·rintro⟨j,hj,e⟩
   have:j=k:=by omega
   subst this
   have:=(List.mem_filter.1 hj).2
   unfold zbW at this
   rw [hs] at this
   simpa using this
  ·intro e
   refine⟨k,List.mem_filter.2 ⟨List.mem_range.2 hk, ?_⟩,rfl⟩
   unfold zbW
   rw [hs]
   simpa using e
 unfold memP
 rw [e1,e2,hs]
 simp only [hz,Bool.true_and]
 cases (s.parent==i)<;>cases zay s<;>rfl
def zhe (K R:List Nat) (j:Nat):List Nat:=(K.take j).filter fun k:Nat=> !inL R (k:Int)
theorem znk {K R:List Nat} {j k:Nat} (h:K[j]? =some k):zhe K R (j+1)=if inL R (k:Int) then zhe K R j else zhe K R j++[k]:=by
 unfold zhe
 rw [List.take_add_one,h,List.filter_append]
 cases hb:inL R (k:Int)<;>simp [hb]
theorem zo4 (K R:List Nat) (j:Nat):(zhe K R j).length<=K.length:=by
 unfold zhe
 exact Nat.le_trans (List.length_filter_le ..) (by rw [List.length_take]; omega)
theorem zmQ (env:Env) (c:ChD) (h:Full c) (i:Int):Con Tryz.prog env 269 [zaj c,I i] (.own 3 1 ((memL c i).map zaf)):=by
 have hlen:=h.few
 have f0:=zet env c i
 cases hz:inZ c i with
 | false=>
   rw [hz] at f0
   have hm:memL c i=[]:=by
    unfold memL
    rw [List.filter_eq_nil_iff]
    intro k _
    unfold memP
    cases c.states[k]? with
    | none=>simp
    | some s=>simp [hz]
   rw [hm]
   unfold zaj tabCells at f0 |-
   refine zap Tryz.func269 rfl Tryz.call269 (by rw [Tryz.ntmps269]; simp) ?_
   rw [Tryz.ntmps269,Tryz.results269]
   repeat (first | refine st0 ?_ | refine cC0 f0 ?_)
   (refine zae ?_; refine⟨_,(by show (zar _ _ _).run _=some _; simp only [go_sem]; rfl), ?_⟩)
   exact RStr.own_nil _ _ (by decide)
 | true=>
   rw [hz] at f0
   rw [zra i hz]
   have f1:=zcU env c i (by omega)
   have f2:=zgp env c i (by omega)
   unfold chAV at f1 f2
   have hKl:=za8 h.toRight i false
   have hRl:=za8 h.toRight i true
   generalize kidsL c i true=R at*
   generalize kidsL c i false=K at*
   unfold zaj tabCells at f0 |-
   refine zaa Tryz.func269 rfl Tryz.call269 (by rw [Tryz.ntmps269]; simp) ?_
   rw [Tryz.ntmps269,Tryz.results269]
   repeat (first | refine st0 ?_ | refine cC0 f0 ?_ | refine cC0 f1 ?_ | refine cC0 f2 ?_)
   refine zaS 6 6 3 1 ?_
   refine zac (D:=Nat) (fun j vs=>[(5, .row 18 (vs 18)),(6, .row 6 (vs 6)),(24, .row 24 (vs 24)),(25,I K.length),(26,I j)]) (fun j _=>[(6,⟨1,(zhe K R j).map zaf,3,true⟩),(18,⟨1,R.map zaf,3,true⟩),(24,⟨1,K.map zaf,3,true⟩)]) (fun j _ esc=>j<=K.length/\esc 6=false) (fun j=>K.length-j) 0 ?_ ?_ ?_ ?_
   ·exact⟨Nat.zero_le _,rfl⟩
   ·(simp only [go_sem])
   ·(simp only [go_sem])
    try rfl
   rintro j ws esc ⟨hj,e0⟩
   by_cases hlt:j<K.length
   ·obtain⟨k,hk⟩: ∃k,K[j]? =some k:=⟨K[j],List.getElem?_eq_getElem hlt⟩
    have q1:=nlt hlt
    have q2:=zab hlt (by omega)
    have f3:=zdI env R k (by omega)
    have hil:=zo4 K R j
    have hf:Fits ((zhe K R j).length+1) 8:=zah (by omega) (by omega)
    have hn:=znk (R:=R) hk
    cases hb:inL R k with
    | true=>
      rw [hb] at f3
      rw [hb,if_pos rfl] at hn
      have F:=ai zaf.eq_1<|ai q1<|ai q2<|ai hk<|ai hf<|e0
      repeat (first | refine st ?_ | refine cC f3 ?_)
      refine⟨j+1,⟨hlt,by simp only [go_sem,e0]⟩, ?_, ?_,by omega⟩
      ·(simp only [go_sem,F])
      ·have F:=ai zaf.eq_1<|hn
       (simp only [go_sem,List.map_append,F])
    | false=>
      rw [hb] at f3
      rw [hb,if_neg Bool.false_ne_true] at hn
      have F:=ai zaf.eq_1<|ai q1<|ai q2<|ai hk<|ai hf<|e0
      repeat (first | refine st ?_ | refine cC f3 ?_)
      refine⟨j+1,⟨hlt,by simp only [go_sem,e0]⟩, ?_, ?_,by omega⟩
      ·(simp only [go_sem,F])
      ·have F:=ai zaf.eq_1<|hn
       (simp only [go_sem,List.map_append,F])
   ·obtain rfl:j=K.length:=by omega
    have q1: ¬(K.length:Int)< (K.length:Int):=by omega
    have hall:zhe K R K.length=K.filter fun k:Nat=> !inL R (k:Int):=by unfold zhe; rw [List.take_length]
    have F:=ai q1<|ai hall<|e0
    repeat refine st ?_
    exact aR
end
section
theorem Str.seq {sz:Nat} {es' es:List (List AV)} (hl:es'.length=es.length) (hs: ∀(i:Nat) (e' e:List AV),es'[i]? =some e'->es[i]? =some e->Strs e' e):Str (.seq sz es') (.seq sz es):=fun S w v h=>by
 have cell: ∀ {i j:Nat} {c:AV},cellAt es i j=some c-> ∃c',cellAt es' i j=some c'/\Str c' c:=fun {i j c} hc=>by
  unfold cellAt at hc |-
  cases he:es[i]? with
  | none=>rw [he] at hc; cases hc
  | some e=>
    rw [he] at hc
    have hi:=(List.getElem?_eq_some_iff.1 he).1
    have he':es'[i]? =some es'[i]:=List.getElem?_eq_getElem (by omega)
    obtain⟨h1,h2⟩:=hs i _ e he' he
    have hj:=(List.getElem?_eq_some_iff.1 (show e[j]? =some c from hc)).1
    rw [he']
    exact⟨es'[i][j],List.getElem?_eq_getElem (by omega),h2 j _ c (List.getElem?_eq_getElem (by omega)) hc⟩
 cases h with
 | seq A n cap sz es' b o u hn hcap hA hz hc hr=>
   refine .seq A n cap sz es b o u (by omega) hcap hA (fun i e he=> ?_) (fun i j c h=> ?_) fun i j c h=> ?_
   ·have hi:=(List.getElem?_eq_some_iff.1 he).1
    have he':es'[i]? =some es'[i]:=List.getElem?_eq_getElem (by omega)
    rw [<-(hs i _ e he' he).1]
    exact hz i _ he'
   ·obtain⟨c',h1,_⟩:=cell h
    exact hc i j c' h1
   ·obtain⟨c',h1,h2⟩:=cell h
    exact h2 _ _ _ (hr i j c' h1)
theorem Strs.one {c' c:AV} (h:Str c' c):Strs [c'] [c]:= .cons h .nil
def Strss (es' es:List (List AV)):Prop:=es'.length=es.length/\ ∀(i:Nat) (e' e:List AV),es'[i]? =some e'->es[i]? =some e->Strs e' e
theorem Strss.nil:Strss [] []:=⟨rfl,fun i c' c h _=>by simp at h⟩
theorem Strss.cons {e' e:List AV} {es' es:List (List AV)} (h:Strs e' e) (hs:Strss es' es):Strss (e'::es') (e::es):=⟨by simp [hs.1],fun i a b ha hb=>by
 cases i with
 | zero=>
   simp only [List.getElem?_cons_zero,Option.some.injEq] at ha hb
   subst ha hb
   exact h
 | succ i=>exact hs.2 i a b (by simpa using ha) (by simpa using hb)⟩
theorem Str.seqs {sz:Nat} {es' es:List (List AV)} (h:Strss es' es):Str (.seq sz es') (.seq sz es):= .seq h.1 h.2
end
section
def ziF (c:ChD):Bool:=decide ((c.states.length:Int)<=40)&&decide ((c.trans.length:Int)<=70)&&decide ((c.vars.length:Int)<=10)
theorem zhx (env:Env) (c:ChD):Con Tryz.prog env 12 [.agg (chAV c)] (B ((chk c).1==0)):=by
 have f0:=zm9 env c
 unfold chkT at f0
 refine zaa Tryz.func12 rfl Tryz.call12 (by rw [Tryz.ntmps12]; simp) ?_
 rw [Tryz.ntmps12,Tryz.results12]
 repeat (first | refine st0 ?_ | refine cC0 f0 ?_)
 exact aR0
def zjS (c:ChD):Bool:=ziF c&&((chk c).1==0)
theorem zts {c:ChD} (h:(chk c).1=0):chk c=(0, -1):=by
 unfold chk at h |-
 split at h
 ·simp at h
 rename_i h1
 rw [if_neg h1]
 split at h
 ·simp at h
 rename_i h2
 rw [if_neg h2]
 split at h
 ·simp at h
 rename_i h3
 try simp only at h |-
 split at h
 ·simp at h
 rename_i h4
 try simp only at h |-
 split at h
 ·simp at h
 rename_i h5
 rw [if_neg h5]
 split at h
 ·simp at h
 ·rfl
theorem zpB {c:ChD} (h:zjS c=true):Full c:=by
 unfold zjS at h
 rw [Bool.and_eq_true,beq_iff_eq] at h
 exact full_of h.2
end
section
end

end Go.Proofs.YtnbjaghjdeicmaaGreatDoor