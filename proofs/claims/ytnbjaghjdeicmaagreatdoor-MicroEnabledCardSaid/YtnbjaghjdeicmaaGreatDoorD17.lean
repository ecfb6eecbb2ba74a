/- The document's words on trees and tables. -/
import Derived.Test.YtnbjaghjdeicmaaGreatDoorD16
import Derived.Test.YtnbjaghjdeicmaaGreatDoorD6
import Derived.Test.YtnbjaghjdeicmaaGreatDoorD12
import Derived.Test.YtnbjaghjdeicmaaGreatDoorD15
import Derived.Test.YtnbjaghjdeicmaaGreatDoorD8
import Derived.Test.YtnbjaghjdeicmaaGreatDoorD11
set_option maxRecDepth 100000
set_option maxHeartbeats 8000000
set_option linter.unusedSimpArgs false
namespace Go.Proofs.YtnbjaghjdeicmaaGreatDoor
open Go.RowKit
section
theorem zr9 {α:Type} [DecidableEq α] (l:List α):(0< (l.length:Int))=((l == [])=false):=by
 rw [eq_iff_iff]
 cases l<;>simp
theorem zj1 (env:Env) (c:ChD) (hn:c.states.length<=1000000) (i:Nat) (s:StD) (hs:c.states[i]? =some s) (hp: ¬s.parent= -1):Con Tryz.prog env 112 [.agg (chAV c),I i] (B (zay c i s)):=by
 have hi:i<c.states.length:=(List.getElem?_eq_some_iff.1 hs).1
 have k0:=nlt hi
 have f1:=zb0 env s.name
 have f2:=zj6 env c s.name hn
 have f3:=zdR env c s.inn
 have f4:=zdR env c s.out
 have f5:=zbf env c (i:Int) true hn
 have f6:=zbf env c (i:Int) false hn
 have f7:=zbe env s
 have hlen:(kidsL c i true).length<=1000000:=by
  have:=za9 c i true c.states.length
  unfold kidsL
  omega
 have f8:=zi0 env (kidsL c i true) s.initial hlen
 have f9:=zfY env c (kidsL c i true) hlen (fun k hk=>(zfd hk).1)
 have z1:=zb3 (kidsL c i true)
 have z2:=zr9 (kidsL c i false)
 have z3:=zb3 s.out
 have z4:=zb3 s.inn
 refine zaa Tryz.func112 rfl Tryz.call112 (by rw [Tryz.ntmps112]; simp) ?_
 rw [Tryz.ntmps112,Tryz.results112]
 cases e1:zaJ s.name
 ·rw [show zay c i s=false by unfold zay; rw [e1]; rfl]
  have F:=ai chAV.eq_1<|ai stAV.eq_1<|ai k0<|ai hs<|ai bneA<|e1
  repeat (first | refine st ?_ | refine cC f1 ?_)
  exact aR
 cases e2:(zhP c s.name==(i:Int))
 ·rw [show zay c i s=false by unfold zay; rw [e2]; simp]
  have F:=ai chAV.eq_1<|ai stAV.eq_1<|ai k0<|ai hs<|ai bneA<|ai e1<|e2
  repeat (first | refine st ?_ | refine cC f1 ?_ | refine cC f2 ?_)
  exact aR
 cases e3:zbY c.vars.length c.states.length s.inn
 ·rw [show zay c i s=false by unfold zay; rw [e3]; simp]
  have F:=ai chAV.eq_1<|ai stAV.eq_1<|ai k0<|ai hs<|ai bneA<|ai e1<|ai e2<|e3
  repeat (first | refine st ?_ | refine cC f1 ?_ | refine cC f2 ?_ | refine cC f3 ?_)
  exact aR
 cases e4:zbY c.vars.length c.states.length s.out
 ·rw [show zay c i s=false by unfold zay; rw [e4]; simp]
  have F:=ai chAV.eq_1<|ai stAV.eq_1<|ai k0<|ai hs<|ai bneA<|ai e1<|ai e2<|ai e3<|e4
  repeat (first | refine st ?_ | refine cC f1 ?_ | refine cC f2 ?_ | refine cC f3 ?_ | refine cC f4 ?_)
  exact aR
 have b0:=zbh hp
 by_cases p1:s.parent<0
 ·rw [show zay c i s=false by unfold zay zaR; rw [b0,decide_eq_false (show ¬0<=s.parent by omega)]; simp]
  have F:=ai chAV.eq_1<|ai stAV.eq_1<|ai k0<|ai hs<|ai bneA<|ai e1<|ai e2<|ai e3<|ai e4<|ai b0<|p1
  repeat (first | refine st ?_ | refine cC f1 ?_ | refine cC f2 ?_ | refine cC f3 ?_ | refine cC f4 ?_)
  exact aR
 obtain⟨m,hm⟩:=zcU (show 0<=s.parent by omega)
 have p1: ¬(m:Int)<0:=by omega
 have b0:((m:Int) == -1)=false:=zbh (by omega)
 by_cases p2:(i:Int)<=(m:Int)
 ·rw [show zay c i s=false by unfold zay zaR; rw [hm,b0,decide_eq_false (show ¬(m:Int)<i by omega)]; simp]
  have F:=ai chAV.eq_1<|ai stAV.eq_1<|ai k0<|ai hs<|ai bneA<|ai e1<|ai e2<|ai e3<|ai e4<|ai hm<|ai b0<|ai p1<|p2
  repeat (first | refine st ?_ | refine cC f1 ?_ | refine cC f2 ?_ | refine cC f3 ?_ | refine cC f4 ?_)
  exact aR
 obtain⟨q,hq,_⟩:=zat (show m<c.states.length by omega)
 have p3:=nlt (show m<c.states.length by omega)
 have fn:=zdm env q
 have hnq:zaA c (m:Int)=zcc q:=by unfold zaA; rw [zbV,hq]
 cases p4:zcc q
 ·rw [show zay c i s=false by unfold zay zaR; rw [hm,b0,hnq,p4]; simp]
  have F:=ai chAV.eq_1<|ai stAV.eq_1<|ai k0<|ai hs<|ai bneA<|ai e1<|ai e2<|ai e3<|ai e4<|ai hm<|ai b0<|ai p1<|ai p2<|ai p3<|ai p4<|hq
  repeat (first | refine st ?_ | refine cC f1 ?_ | refine cC f2 ?_ | refine cC f3 ?_ | refine cC f4 ?_ | refine cC fn ?_)
  exact aR
 have hpar:zaR c i s=true:=by unfold zaR; rw [hm,b0,hnq,p4]; simp; omega
 have hpp:((s.parent == -1)||zaQ c s)=(false||zaQ c s):=by rw [hm,b0]
 have fu:=zhY env c s (by omega)
 have g5:=zbf env c (m:Int) true hn
 have hlen2:(kidsL c m true).length<=1000000:=by
  have:=za9 c m true c.states.length
  unfold kidsL
  omega
 have g8:=zi0 env (kidsL c m true) s.initial hlen2
 have hst:zay c i s=zav c i s:=by unfold zay; rw [e1,e2,e3,e4,hpar]; simp
 rw [hst]
 by_cases hk1:s.kind=1
 ·cases e5:(kidsL c i true == [])
  ·rw [show zav c i s=inL (kidsL c i true) s.initial by unfold zav; rw [if_pos hk1,if_neg (by simpa using e5)]]
   have F:=ai chAV.eq_1<|ai stAV.eq_1<|ai k0<|ai hs<|ai bneA<|ai e1<|ai e2<|ai e3<|ai e4<|ai hm<|ai b0<|ai p1<|ai p2<|ai p3<|ai p4<|ai hq<|ai hk1<|ai z1<|e5
   repeat (first | refine st ?_ | refine cC f1 ?_ | refine cC f2 ?_ | refine cC f3 ?_ | refine cC f4 ?_ | refine cC fn ?_ | refine cC f5 ?_ | refine cC f8 ?_)
   exact aR
  ·rw [show zav c i s=(s.initial == -1) by unfold zav; rw [if_pos hk1,if_pos (by simpa using e5)]]
   have F:=ai chAV.eq_1<|ai stAV.eq_1<|ai k0<|ai hs<|ai bneA<|ai e1<|ai e2<|ai e3<|ai e4<|ai hm<|ai b0<|ai p1<|ai p2<|ai p3<|ai p4<|ai hq<|ai hk1<|ai z1<|e5
   repeat (first | refine st ?_ | refine cC f1 ?_ | refine cC f2 ?_ | refine cC f3 ?_ | refine cC f4 ?_ | refine cC fn ?_ | refine cC f5 ?_ | refine cC f8 ?_)
   exact aR
 have b1:=zbh hk1
 by_cases hk2:s.kind=2
 ·have hr:zav c i s=(((kidsL c i true).all fun k=>zaA c k)&&decide (0< (kidsL c i true).length)&&(s.initial == -1)):=by unfold zav; rw [if_neg hk1,if_pos hk2]
  rw [hr]
  cases e5:(s.initial == -1)
  ·rw [Bool.and_false]
   have F:=ai chAV.eq_1<|ai stAV.eq_1<|ai k0<|ai hs<|ai bneA<|ai e1<|ai e2<|ai e3<|ai e4<|ai hm<|ai b0<|ai p1<|ai p2<|ai p3<|ai p4<|ai hq<|ai hk2<|e5
   repeat (first | refine st ?_ | refine cC f1 ?_ | refine cC f2 ?_ | refine cC f3 ?_ | refine cC f4 ?_ | refine cC fn ?_ | refine cC f5 ?_ | refine cC f9 ?_)
   exact aR
  ·rw [Bool.and_true]
   have F:=ai chAV.eq_1<|ai stAV.eq_1<|ai k0<|ai hs<|ai bneA<|ai e1<|ai e2<|ai e3<|ai e4<|ai hm<|ai b0<|ai p1<|ai p2<|ai p3<|ai p4<|ai hq<|ai hk2<|e5
   repeat (first | refine st ?_ | refine cC f1 ?_ | refine cC f2 ?_ | refine cC f3 ?_ | refine cC f4 ?_ | refine cC fn ?_ | refine cC f5 ?_ | refine cC f9 ?_)
   exact aR
 have b2:=zbh hk2
 cases e5:(kidsL c i false == [])
 ·rw [show zav c i s=false by unfold zav; rw [if_neg hk1,if_neg hk2,e5]; simp]
  have F:=ai chAV.eq_1<|ai stAV.eq_1<|ai k0<|ai hs<|ai bneA<|ai e1<|ai e2<|ai e3<|ai e4<|ai hm<|ai b0<|ai p1<|ai p2<|ai p3<|ai p4<|ai hq<|ai b1<|ai b2<|ai z2<|e5
  repeat (first | refine st ?_ | refine cC f1 ?_ | refine cC f2 ?_ | refine cC f3 ?_ | refine cC f4 ?_ | refine cC fn ?_ | refine cC f5 ?_ | refine cC f6 ?_)
  exact aR
 by_cases hk3:s.kind=3
 ·have hr:zav c i s=((kidsL c i false == [])&&((s.parent == -1)||zaQ c s)&&(s.initial == -1)&&(s.out == [])):=by unfold zav; rw [if_neg hk1,if_neg hk2,if_pos hk3]
  rw [hr,e5,hpp]
  cases e6:(s.initial == -1)
  ·rw [Bool.and_false,Bool.false_and]
   have F:=ai chAV.eq_1<|ai stAV.eq_1<|ai k0<|ai hs<|ai bneA<|ai e1<|ai e2<|ai e3<|ai e4<|ai hm<|ai b0<|ai p1<|ai p2<|ai p3<|ai p4<|ai hq<|ai hk3<|ai z2<|ai e5<|e6
   repeat (first | refine st ?_ | refine cC f1 ?_ | refine cC f2 ?_ | refine cC f3 ?_ | refine cC f4 ?_ | refine cC fn ?_ | refine cC f5 ?_ | refine cC f6 ?_ | refine cC fu ?_)
   exact aR
  cases e7:(s.out == [])
  ·rw [Bool.and_false]
   have F:=ai chAV.eq_1<|ai stAV.eq_1<|ai k0<|ai hs<|ai bneA<|ai e1<|ai e2<|ai e3<|ai e4<|ai hm<|ai b0<|ai p1<|ai p2<|ai p3<|ai p4<|ai hq<|ai hk3<|ai z2<|ai z3<|ai e5<|ai e6<|e7
   repeat (first | refine st ?_ | refine cC f1 ?_ | refine cC f2 ?_ | refine cC f3 ?_ | refine cC f4 ?_ | refine cC fn ?_ | refine cC f5 ?_ | refine cC f6 ?_ | refine cC fu ?_)
   exact aR
  rw [Bool.true_and,Bool.and_true,Bool.and_true,Bool.false_or]
  have F:=ai chAV.eq_1<|ai stAV.eq_1<|ai k0<|ai hs<|ai bneA<|ai e1<|ai e2<|ai e3<|ai e4<|ai hm<|ai b0<|ai p1<|ai p2<|ai p3<|ai p4<|ai hq<|ai hk3<|ai z2<|ai z3<|ai e5<|ai e6<|e7
  repeat (first | refine st ?_ | refine cC f1 ?_ | refine cC f2 ?_ | refine cC f3 ?_ | refine cC f4 ?_ | refine cC fn ?_ | refine cC f5 ?_ | refine cC f6 ?_ | refine cC fu ?_)
  exact aR
 have b3:=zbh hk3
 by_cases hk45:s.kind=4\/s.kind=5
 ·have hr:zav c i s=((kidsL c i false == [])&&zaQ c s&&inL (kidsL c s.parent true) s.initial&&(s.inn == [])&&(s.out == [])):=by unfold zav; rw [if_neg hk1,if_neg hk2,if_neg hk3,if_pos hk45]
  have e6:zaD s=true:=by unfold zaD; simpa using hk45
  rw [hr,e5,Bool.true_and]
  cases e7:zaQ c s
  ·rw [Bool.false_and,Bool.false_and,Bool.false_and]
   have F:=ai chAV.eq_1<|ai stAV.eq_1<|ai k0<|ai hs<|ai bneA<|ai e1<|ai e2<|ai e3<|ai e4<|ai hm<|ai b0<|ai p1<|ai p2<|ai p3<|ai p4<|ai hq<|ai b1<|ai b2<|ai b3<|ai z2<|ai e5<|ai e6<|e7
   repeat (first | refine st ?_ | refine cC f1 ?_ | refine cC f2 ?_ | refine cC f3 ?_ | refine cC f4 ?_ | refine cC fn ?_ | refine cC f5 ?_ | refine cC f6 ?_ | refine cC f7 ?_ | refine cC fu ?_)
   exact aR
  rw [hm,Bool.true_and]
  cases e8:inL (kidsL c m true) s.initial
  ·rw [Bool.false_and,Bool.false_and]
   have F:=ai chAV.eq_1<|ai stAV.eq_1<|ai k0<|ai hs<|ai bneA<|ai e1<|ai e2<|ai e3<|ai e4<|ai hm<|ai b0<|ai p1<|ai p2<|ai p3<|ai p4<|ai hq<|ai b1<|ai b2<|ai b3<|ai z2<|ai e5<|ai e6<|ai e7<|e8
   repeat (first | refine st ?_ | refine cC f1 ?_ | refine cC f2 ?_ | refine cC f3 ?_ | refine cC f4 ?_ | refine cC fn ?_ | refine cC f5 ?_ | refine cC f6 ?_ | refine cC f7 ?_ | refine cC fu ?_ | refine cC g5 ?_ | refine cC g8 ?_)
   exact aR
  cases e9:(s.inn == [])
  ·rw [Bool.and_false,Bool.false_and]
   have F:=ai chAV.eq_1<|ai stAV.eq_1<|ai k0<|ai hs<|ai bneA<|ai e1<|ai e2<|ai e3<|ai e4<|ai hm<|ai b0<|ai p1<|ai p2<|ai p3<|ai p4<|ai hq<|ai b1<|ai b2<|ai b3<|ai z2<|ai z4<|ai e5<|ai e6<|ai e7<|ai e8<|e9
   repeat (first | refine st ?_ | refine cC f1 ?_ | refine cC f2 ?_ | refine cC f3 ?_ | refine cC f4 ?_ | refine cC fn ?_ | refine cC f5 ?_ | refine cC f6 ?_ | refine cC f7 ?_ | refine cC fu ?_ | refine cC g5 ?_ | refine cC g8 ?_)
   exact aR
  rw [Bool.true_and,Bool.true_and]
  have F:=ai chAV.eq_1<|ai stAV.eq_1<|ai k0<|ai hs<|ai bneA<|ai e1<|ai e2<|ai e3<|ai e4<|ai hm<|ai b0<|ai p1<|ai p2<|ai p3<|ai p4<|ai hq<|ai b1<|ai b2<|ai b3<|ai z2<|ai z3<|ai z4<|ai e5<|ai e6<|ai e7<|ai e8<|e9
  repeat (first | refine st ?_ | refine cC f1 ?_ | refine cC f2 ?_ | refine cC f3 ?_ | refine cC f4 ?_ | refine cC fn ?_ | refine cC f5 ?_ | refine cC f6 ?_ | refine cC f7 ?_ | refine cC fu ?_ | refine cC g5 ?_ | refine cC g8 ?_)
  exact aR
 have e6:zaD s=false:=by unfold zaD; simpa using hk45
 rw [show zav c i s=false by unfold zav; rw [if_neg hk1,if_neg hk2,if_neg hk3,if_neg hk45]]
 have F:=ai chAV.eq_1<|ai stAV.eq_1<|ai k0<|ai hs<|ai bneA<|ai e1<|ai e2<|ai e3<|ai e4<|ai hm<|ai b0<|ai p1<|ai p2<|ai p3<|ai p4<|ai hq<|ai b1<|ai b2<|ai b3<|ai z2<|ai e5<|e6
 repeat (first | refine st ?_ | refine cC f1 ?_ | refine cC f2 ?_ | refine cC f3 ?_ | refine cC f4 ?_ | refine cC fn ?_ | refine cC f5 ?_ | refine cC f6 ?_ | refine cC f7 ?_)
 exact aR
end
section
theorem zog (env:Env) (c:ChD) (hn:c.states.length<=1000000) (i:Nat) (s:StD) (hs:c.states[i]? =some s):Con Tryz.prog env 112 [.agg (chAV c),I i] (B (zay c i s)):=by
 by_cases hp:s.parent= -1
 ·exact ziX env c hn i s hs hp
 ·exact zj1 env c hn i s hs hp
theorem zpV (env:Env) (c:ChD) (t:TrD):Con Tryz.prog env 114 [.agg (chAV c), .agg (trAV t)] (B (zcx c t)):=by
 have f2:=zb0 env t.event
 have f3:=zj8 env c t.guard
 have f4:=zdR env c t.acts
 have z1:=zb3 t.guard
 refine zaa Tryz.func114 rfl Tryz.call114 (by rw [Tryz.ntmps114]; simp) ?_
 rw [Tryz.ntmps114,Tryz.results114]
 by_cases p1:t.src<0
 ·rw [show zcx c t=false by unfold zcx zaA at_; rw [if_neg (show ¬0<=t.src by omega)]; rfl]
  have F:=ai chAV.eq_1<|ai trAV.eq_1<|p1
  repeat refine st ?_
  exact aR
 obtain⟨m,hm⟩:=zcU (show 0<=t.src by omega)
 have p1: ¬(m:Int)<0:=by omega
 by_cases p2:c.states.length<=m
 ·have p2':(c.states.length:Int)<=(m:Int):=by omega
  rw [show zcx c t=false by unfold zcx zaA; rw [hm,zbV,List.getElem?_eq_none p2]; rfl]
  have F:=ai chAV.eq_1<|ai trAV.eq_1<|ai hm<|ai p1<|p2'
  repeat refine st ?_
  exact aR
 have p2': ¬(c.states.length:Int)<=(m:Int):=by omega
 have k0:=nlt (show m<c.states.length by omega)
 obtain⟨q,hq,_⟩:=zat (show m<c.states.length by omega)
 have f1:=zdm env q
 have hnq:zaA c t.src=zcc q:=by unfold zaA; rw [hm,zbV,hq]
 have hr:zcx c t=(zcc q&&((t.event == [])||zaJ t.event)&&((t.guard == [])||zaH t.guard c.vars.length c.states.length)&&zbY c.vars.length c.states.length t.acts&&((t.target == -1)||(decide (0<=t.target)&&decide (t.target<c.states.length)))):=by unfold zcx; rw [hnq]
 rw [hr]
 cases e1:zcc q
 ·rw [Bool.false_and,Bool.false_and,Bool.false_and,Bool.false_and]
  have F:=ai chAV.eq_1<|ai trAV.eq_1<|ai stAV.eq_1<|ai hm<|ai hq<|ai p1<|ai p2'<|ai k0<|e1
  repeat (first | refine st ?_ | refine cC f1 ?_)
  exact aR
 by_cases p3:t.target< -1
 ·rw [show ((t.target == -1)||(decide (0<=t.target)&&decide (t.target<c.states.length)))=false by rw [zbh (show t.target≠ -1 by omega),decide_eq_false (show ¬0<=t.target by omega)]; rfl,Bool.and_false]
  have F:=ai chAV.eq_1<|ai trAV.eq_1<|ai stAV.eq_1<|ai hm<|ai hq<|ai p1<|ai p2'<|ai k0<|ai e1<|p3
  repeat (first | refine st ?_ | refine cC f1 ?_)
  exact aR
 by_cases p4:(c.states.length:Int)<=t.target
 ·rw [show ((t.target == -1)||(decide (0<=t.target)&&decide (t.target<c.states.length)))=false by rw [zbh (show t.target≠ -1 by omega),decide_eq_false (show ¬t.target<c.states.length by omega)]; simp,Bool.and_false]
  have F:=ai chAV.eq_1<|ai trAV.eq_1<|ai stAV.eq_1<|ai hm<|ai hq<|ai p1<|ai p2'<|ai k0<|ai e1<|ai p3<|p4
  repeat (first | refine st ?_ | refine cC f1 ?_)
  exact aR
 rw [show ((t.target == -1)||(decide (0<=t.target)&&decide (t.target<c.states.length)))=true by rw [Bool.or_eq_true,Bool.and_eq_true]; simp; omega,Bool.and_true,Bool.true_and]
 cases e2:(t.event == [])
 ·rw [Bool.false_or]
  cases e3:zaJ t.event
  ·rw [Bool.false_and,Bool.false_and]
   have F:=ai chAV.eq_1<|ai trAV.eq_1<|ai stAV.eq_1<|ai hm<|ai hq<|ai p1<|ai p2'<|ai k0<|ai e1<|ai p3<|ai p4<|ai e2<|e3
   repeat (first | refine st ?_ | refine cC f1 ?_ | refine cC f2 ?_)
   exact aR
  rw [Bool.true_and]
  cases e4:(t.guard == [])
  ·rw [Bool.false_or]
   cases e5:zaH t.guard c.vars.length c.states.length
   ·rw [Bool.false_and]
    have F:=ai chAV.eq_1<|ai trAV.eq_1<|ai stAV.eq_1<|ai hm<|ai hq<|ai p1<|ai p2'<|ai k0<|ai e1<|ai p3<|ai p4<|ai e2<|ai e3<|ai z1<|ai e4<|e5
    repeat (first | refine st ?_ | refine cC f1 ?_ | refine cC f2 ?_ | refine cC f3 ?_ | refine cC f4 ?_)
    exact aR
   ·rw [Bool.true_and]
    have F:=ai chAV.eq_1<|ai trAV.eq_1<|ai stAV.eq_1<|ai hm<|ai hq<|ai p1<|ai p2'<|ai k0<|ai e1<|ai p3<|ai p4<|ai e2<|ai e3<|ai z1<|ai e4<|e5
    repeat (first | refine st ?_ | refine cC f1 ?_ | refine cC f2 ?_ | refine cC f3 ?_ | refine cC f4 ?_)
    exact aR
  ·rw [Bool.true_or,Bool.true_and]
   have F:=ai chAV.eq_1<|ai trAV.eq_1<|ai stAV.eq_1<|ai hm<|ai hq<|ai p1<|ai p2'<|ai k0<|ai e1<|ai p3<|ai p4<|ai e2<|ai e3<|ai z1<|e4
   repeat (first | refine st ?_ | refine cC f1 ?_ | refine cC f2 ?_ | refine cC f3 ?_ | refine cC f4 ?_)
   exact aR
 rw [Bool.true_or,Bool.true_and]
 cases e4:(t.guard == [])
 ·rw [Bool.false_or]
  cases e5:zaH t.guard c.vars.length c.states.length
  ·rw [Bool.false_and]
   have F:=ai chAV.eq_1<|ai trAV.eq_1<|ai stAV.eq_1<|ai hm<|ai hq<|ai p1<|ai p2'<|ai k0<|ai e1<|ai p3<|ai p4<|ai e2<|ai z1<|ai e4<|e5
   repeat (first | refine st ?_ | refine cC f1 ?_ | refine cC f2 ?_ | refine cC f3 ?_ | refine cC f4 ?_)
   exact aR
  ·rw [Bool.true_and]
   have F:=ai chAV.eq_1<|ai trAV.eq_1<|ai stAV.eq_1<|ai hm<|ai hq<|ai p1<|ai p2'<|ai k0<|ai e1<|ai p3<|ai p4<|ai e2<|ai z1<|ai e4<|e5
   repeat (first | refine st ?_ | refine cC f1 ?_ | refine cC f2 ?_ | refine cC f3 ?_ | refine cC f4 ?_)
   exact aR
 ·rw [Bool.true_or,Bool.true_and]
  have F:=ai chAV.eq_1<|ai trAV.eq_1<|ai stAV.eq_1<|ai hm<|ai hq<|ai p1<|ai p2'<|ai k0<|ai e1<|ai p3<|ai p4<|ai e2<|ai z1<|e4
  repeat (first | refine st ?_ | refine cC f1 ?_ | refine cC f2 ?_ | refine cC f3 ?_ | refine cC f4 ?_)
  exact aR
abbrev chkT (c:ChD):AV:= .tuple [I (chk c).1,I (chk c).2]
theorem zb8 {c:ChD} {x:Int×Int} (h:chk c=x):chkT c= .tuple [I x.1,I x.2]:=by unfold chkT; rw [h]
theorem zok (env:Env) (c:ChD):Con Tryz.prog env 45 [.agg (chAV c)] (chkT c):=by
 have fname:=zb0 env c.name
 have z1:=zb3 c.states
 refine zaa Tryz.func45 rfl Tryz.call45 (by rw [Tryz.ntmps45]; simp) ?_
 rw [Tryz.ntmps45,Tryz.results45]
 by_cases l1:32<c.states.length
 ·have k1:(32:Int)< (c.states.length:Int):=by omega
  rw [zb8 (show chk c=(8, -1) by unfold chk; rw [if_pos (.inl l1)])]
  have F:=ai chAV.eq_1<|k1
  repeat refine st ?_
  exact aR
 have k1: ¬(32:Int)< (c.states.length:Int):=by omega
 by_cases l2:64<c.trans.length
 ·have k2:(64:Int)< (c.trans.length:Int):=by omega
  rw [zb8 (show chk c=(8, -1) by unfold chk; rw [if_pos (.inr (.inl l2))])]
  have F:=ai chAV.eq_1<|ai k1<|k2
  repeat refine st ?_
  exact aR
 have k2: ¬(64:Int)< (c.trans.length:Int):=by omega
 by_cases l3:8<c.vars.length
 ·have k3:(8:Int)< (c.vars.length:Int):=by omega
  rw [zb8 (show chk c=(8, -1) by unfold chk; rw [if_pos (.inr (.inr l3))])]
  have F:=ai chAV.eq_1<|ai k1<|ai k2<|k3
  repeat refine st ?_
  exact aR
 have k3: ¬(8:Int)< (c.vars.length:Int):=by omega
 have hl: ¬(32<c.states.length\/64<c.trans.length\/8<c.vars.length):=by omega
 cases e2:(c.states == [])
 case true=>
  rw [zb8 (show chk c=(1, -1) by unfold chk; rw [if_neg hl,if_pos (.inl (by simpa using e2))])]
  have F:=ai chAV.eq_1<|ai k1<|ai k2<|ai k3<|ai z1<|e2
  repeat (first | refine st ?_ | refine cC fname ?_)
  exact aR
 cases e1:zaJ c.name
 ·rw [zb8 (show chk c=(1, -1) by unfold chk; rw [if_neg hl,if_pos (.inr e1)])]
  have F:=ai chAV.eq_1<|ai k1<|ai k2<|ai k3<|ai z1<|ai e2<|e1
  repeat (first | refine st ?_ | refine cC fname ?_)
  exact aR
 have hne: ¬(c.states=[]\/zaJ c.name=false):=by
  rw [e1]
  simpa using e2
 have hc1:chk c=(match zaG (zfo c) c.vars.length with
  | some i=>(1,2000+(i:Int))
  | none=>match zaG (zgh c) c.states.length with
    | some i=>(1,(i:Int))
    | none=>if topB c=false then(1, -1) else match zaG (zju c) c.trans.length with
      | some i=>(1,1000+(i:Int))
      | none=>(0, -1)):=by
  unfold chk
  rw [if_neg hl,if_neg hne]
  rfl
 have F:=ai chAV.eq_1<|ai k1<|ai k2<|ai k3<|ai z1<|ai e2<|e1
 repeat (first | refine st ?_ | refine cC fname ?_)
 refine zac (D:=Nat) (fun i vs=>[(1, .loc 1 (vs 1) 0 0),(4,I i)]) (fun _ _=>[(1,⟨5,[chAV c],26,false⟩)]) (fun i _ _=>i<=c.vars.length/\ ∀j,j<i->zfo c j=true) (fun i=>c.vars.length-i) 0 ?_ ?_ ?_ ?_
 ·exact⟨Nat.zero_le _,fun j hj=>by omega⟩
 ·(simp only [go_sem,F])
 ·have F:=chAV.eq_1
  (simp only [go_sem,F])
 rintro i ws esc ⟨hi,hall⟩
 by_cases hlt:i<c.vars.length
 ·obtain⟨v,hv,_⟩:=zat hlt
  have q1:=nlt hlt
  have q2:=zab hlt (by omega)
  have hcon:=zr7 env c (by omega) i v hv
  cases e:varB c i v
  ·have q3:IntKind.i64.wrap (2000+(i:Int))=2000+(i:Int):=zaC (by omega) (by omega)
   rw [zb8 (show chk c=(1,2000+(i:Int)) by rw [hc1,zbC hlt hall (by rw [zfn hv]; exact e)])]
   have F:=ai chAV.eq_1<|ai q1<|ai q2<|ai q3<|e
   repeat (first | refine st ?_ | refine cC hcon ?_)
   exact aR
  ·have F:=ai chAV.eq_1<|ai q1<|ai q2<|e
   repeat (first | refine st ?_ | refine cC hcon ?_)
   refine⟨i+1,⟨hlt,zc2 hall (by rw [zfn hv]; exact e)⟩, ?_, ?_, ?_⟩
   ·(simp only [go_sem,F])
   ·have F:=chAV.eq_1
    (simp only [go_sem,F])
   ·omega
 have q1: ¬(i:Int)< (c.vars.length:Int):=by omega
 have hvn:zaG (zfo c) c.vars.length=none:=zaF fun j hj=>hall j (by omega)
 rw [hvn] at hc1
 have F:=ai chAV.eq_1<|q1
 repeat refine st ?_
 refine zac (D:=Nat) (fun i vs=>[(1, .loc 1 (vs 1) 0 0),(5,I i)]) (fun _ _=>[(1,⟨5,[chAV c],26,false⟩)]) (fun i _ _=>i<=c.states.length/\ ∀j,j<i->zgh c j=true) (fun i=>c.states.length-i) 0 ?_ ?_ ?_ ?_
 ·exact⟨Nat.zero_le _,fun j hj=>by omega⟩
 ·(simp only [go_sem,F])
 ·have F:=chAV.eq_1
  (simp only [go_sem,F])
 try clear ws esc hi hall q1 hlt i
 rintro i ws esc ⟨hi,hall⟩
 by_cases hlt:i<c.states.length
 ·obtain⟨s,hs,_⟩:=zat hlt
  have q1:=nlt hlt
  have q2:=zab hlt (by omega)
  have hcon:=zog env c (by omega) i s hs
  cases e:zay c i s
  ·rw [zb8 (show chk c=(1,(i:Int)) by rw [hc1,zbC hlt hall (by rw [zgv hs]; exact e)])]
   have F:=ai chAV.eq_1<|ai q1<|ai q2<|e
   repeat (first | refine st ?_ | refine cC hcon ?_)
   exact aR
  ·have F:=ai chAV.eq_1<|ai q1<|ai q2<|e
   repeat (first | refine st ?_ | refine cC hcon ?_)
   refine⟨i+1,⟨hlt,zc2 hall (by rw [zgv hs]; exact e)⟩, ?_, ?_, ?_⟩
   ·(simp only [go_sem,F])
   ·have F:=chAV.eq_1
    (simp only [go_sem,F])
   ·omega
 have q1: ¬(i:Int)< (c.states.length:Int):=by omega
 have hsn:zaG (zgh c) c.states.length=none:=zaF fun j hj=>hall j (by omega)
 rw [hsn] at hc1
 by_cases p1:c.initial<0
 ·have ht:topB c=false:=by unfold topB at_; rw [if_neg (by omega)]
  rw [zb8 (show chk c=(1, -1) by rw [hc1,if_pos ht])]
  have F:=ai chAV.eq_1<|ai q1<|p1
  repeat refine st ?_
  exact aR
 obtain⟨m,hm⟩:=zcU (show 0<=c.initial by omega)
 have p1': ¬(m:Int)<0:=by omega
 by_cases p2:(c.states.length:Int)<=(m:Int)
 ·have ht:topB c=false:=by unfold topB; rw [hm,zbV,List.getElem?_eq_none (by omega)]
  rw [zb8 (show chk c=(1, -1) by rw [hc1,if_pos ht])]
  have F:=ai chAV.eq_1<|ai q1<|ai hm<|ai p1'<|p2
  repeat refine st ?_
  exact aR
 have p3:=nlt (show m<c.states.length by omega)
 obtain⟨q,hq,_⟩:=zat (show m<c.states.length by omega)
 have fnorm:=zdm env q
 have htop:topB c=((q.parent == -1)&&zcc q):=by unfold topB; rw [hm,zbV,hq]
 cases e3:(q.parent == -1)
 ·rw [zb8 (show chk c=(1, -1) by rw [hc1,if_pos (by rw [htop,e3]; rfl)])]
  have F:=ai chAV.eq_1<|ai stAV.eq_1<|ai q1<|ai hm<|ai p1'<|ai p2<|ai p3<|ai hq<|ai e3<|bneA
  repeat (first | refine st ?_ | refine cC fnorm ?_)
  exact aR
 cases e4:zcc q
 ·rw [zb8 (show chk c=(1, -1) by rw [hc1,if_pos (by rw [htop,e3,e4]; rfl)])]
  have F:=ai chAV.eq_1<|ai stAV.eq_1<|ai q1<|ai hm<|ai p1'<|ai p2<|ai p3<|ai hq<|ai e3<|ai e4<|bneA
  repeat (first | refine st ?_ | refine cC fnorm ?_)
  exact aR
 rw [if_neg (by rw [htop,e3,e4]; simp)] at hc1
 have F:=ai chAV.eq_1<|ai stAV.eq_1<|ai q1<|ai hm<|ai p1'<|ai p2<|ai p3<|ai hq<|ai e3<|ai e4<|bneA
 repeat (first | refine st ?_ | refine cC fnorm ?_)
 refine zac (D:=Nat) (fun i vs=>[(1, .loc 1 (vs 1) 0 0),(6,I i)]) (fun _ _=>[(1,⟨5,[chAV c],26,false⟩)]) (fun i _ _=>i<=c.trans.length/\ ∀j,j<i->zju c j=true) (fun i=>c.trans.length-i) 0 ?_ ?_ ?_ ?_
 ·exact⟨Nat.zero_le _,fun j hj=>by omega⟩
 ·have F:=ai chAV.eq_1<|hm
  (simp only [go_sem,F])
 ·have F:=ai chAV.eq_1<|hm
  (simp only [go_sem,F])
 try clear ws esc hi hall q1 hlt i
 rintro i ws esc ⟨hi,hall⟩
 by_cases hlt:i<c.trans.length
 ·obtain⟨t,ht,_⟩:=zat hlt
  have q1:=nlt hlt
  have q2:=zab hlt (by omega)
  have hcon:=zpV env c t
  cases e:zcx c t
  ·have q3:IntKind.i64.wrap (1000+(i:Int))=1000+(i:Int):=zaC (by omega) (by omega)
   rw [zb8 (show chk c=(1,1000+(i:Int)) by rw [hc1,zbC hlt hall (by rw [zgu ht]; exact e)])]
   have F:=ai chAV.eq_1<|ai trAV.eq_1<|ai q1<|ai q2<|ai q3<|ai ht<|e
   repeat (first | refine st ?_ | refine cC hcon ?_)
   exact aR
  ·have F:=ai chAV.eq_1<|ai trAV.eq_1<|ai q1<|ai q2<|ai ht<|e
   repeat (first | refine st ?_ | refine cC hcon ?_)
   refine⟨i+1,⟨hlt,zc2 hall (by rw [zgu ht]; exact e)⟩, ?_, ?_, ?_⟩
   ·(simp only [go_sem,F])
   ·have F:=chAV.eq_1
    (simp only [go_sem,F])
   ·omega
 have q1: ¬(i:Int)< (c.trans.length:Int):=by omega
 rw [zb8 (show chk c=(0, -1) by rw [hc1,zaF fun j hj=>hall j (by omega)])]
 have F:=ai chAV.eq_1<|q1
 repeat refine st ?_
 exact aR
end
section
theorem zfX (env:Env) (l m:List Nat) (hl:l.length<=1000000):Con Tryz.prog env 31 [.seq 1 (l.map zad), .seq 1 (m.map zad)] (B (decide (l=m))):=by
 by_cases h0:l.length=m.length
 ·refine zaa Tryz.func31 rfl Tryz.call31 (by rw [Tryz.ntmps31]; simp) ?_
  rw [Tryz.ntmps31,Tryz.results31]
  have g0:((l.length:Int) != (m.length:Int))=false:=by simp [h0]
  have F:=g0
  repeat refine st ?_
  refine zac (D:=Nat) (fun j _=>[(0, .seq 1 (l.map zad)),(1, .seq 1 (m.map zad)),(4,B false),(5,I j)]) (fun _ _=>[]) (fun j _ _=>j<=l.length/\l.take j=m.take j) (fun j=>l.length-j) 0 ?_ ?_ ?_ ?_
  ·exact⟨Nat.zero_le _,rfl⟩
  ·(simp only [go_sem,F])
  ·(simp only [go_sem,F])
  rintro j ws esc ⟨hj,ht⟩
  by_cases hlt:j<l.length
  ·have hlt2:j<m.length:=by omega
   obtain⟨a,ha⟩: ∃a,l[j]? =some a:=⟨l[j],List.getElem?_eq_getElem hlt⟩
   obtain⟨b,hb⟩: ∃b,m[j]? =some b:=⟨m[j],List.getElem?_eq_getElem hlt2⟩
   have g1:=nlt hlt
   have g4:=nlt hlt2
   have g2:=zab hlt (by omega)
   by_cases e:a=b
   ·have g3:((a:Int) != (b:Int))=false:=by simp [e]
    have F:=ai g1<|ai g2<|ai g4<|ai ha<|ai hb<|ai zad.eq_1<|g3
    repeat refine st ?_
    refine⟨j+1,⟨hlt, ?_⟩, ?_, ?_,by omega⟩
    ·rw [List.take_add_one,List.take_add_one,ht,ha,hb,e]
    ·(simp only [go_sem,F])
    ·(simp only [go_sem,F])
   ·have g3:((a:Int) != (b:Int))=true:=by simp; omega
    have hr:decide (l=m)=false:=decide_eq_false fun e2=>e (by rw [e2] at ha; exact Option.some.inj (ha.symm.trans hb))
    rw [hr]
    have F:=ai g1<|ai g2<|ai g4<|ai ha<|ai hb<|ai zad.eq_1<|g3
    repeat refine st ?_
    exact aR
  ·obtain rfl:j=l.length:=by omega
   have g1: ¬(l.length:Int)< (l.length:Int):=by omega
   have hr:decide (l=m)=true:=decide_eq_true (by rwa [List.take_length,List.take_of_length_le (by omega)] at ht)
   rw [hr]
   have F:=g1
   repeat refine st ?_
   exact aR
 ·have g0:((l.length:Int) != (m.length:Int))=true:=by simp; omega
  have hr:decide (l=m)=false:=decide_eq_false fun e=>h0 (by rw [e])
  rw [hr]
  refine zaa Tryz.func31 rfl Tryz.call31 (by rw [Tryz.ntmps31]; simp) ?_
  rw [Tryz.ntmps31,Tryz.results31]
  have F:=g0
  repeat refine st ?_
  exact aR
theorem ziZ (env:Env) (c:ChD) (i:Int):Con Tryz.prog env 151 [.agg (chAV c),I i] (B (inZ c i)):=by
 unfold inZ
 by_cases h0:0<=i
 ·by_cases h1:i< (c.states.length:Int)
  ·refine zaa Tryz.func151 rfl Tryz.call151 (by rw [Tryz.ntmps151]; simp) ?_
   rw [Tryz.ntmps151,Tryz.results151]
   have F:=ai chAV.eq_1<|ai h0<|h1
   repeat refine st ?_
   exact aR
  ·refine zaa Tryz.func151 rfl Tryz.call151 (by rw [Tryz.ntmps151]; simp) ?_
   rw [Tryz.ntmps151,Tryz.results151]
   have F:=ai chAV.eq_1<|ai h0<|h1
   repeat refine st ?_
   exact aR
 ·refine zaa Tryz.func151 rfl Tryz.call151 (by rw [Tryz.ntmps151]; simp) ?_
  rw [Tryz.ntmps151,Tryz.results151]
  have F:=ai chAV.eq_1<|h0
  repeat refine st ?_
  exact aR
theorem zbb {c:ChD} (h:Right c) (i:Int) (real:Bool):(kidsL c i real).length<=32:=by
 have h1:=za9 c i real c.states.length
 have h2:=h.few
 have h1:(kidsL c i real).length<=c.states.length:=h1
 omega
theorem ziy {c:ChD} (h:Right c) {i:Int} (hi: -1<=i):(walkL c i).length<=32:=by
 have hf:=h.few
 have:=(zea h 40 i hi (by omega)).length_le_of_subset (l₂:=List.range c.states.length) fun m hm=>List.mem_range.2 ((zeb h 40 i m hi (by omega)).1 hm).1
 simp at this
 omega
theorem zsy {α β:Type} (f:α->List β) (K:List α) (j:Nat):((K.take j).flatMap f).length<=(K.flatMap f).length:=by
 have e:(K.take j).flatMap f++(K.drop j).flatMap f=K.flatMap f:=by rw [<-List.flatMap_append,List.take_append_drop]
 have:=congrArg List.length e
 simp only [List.length_append] at this
 omega
theorem zqS {α β:Type} (f:α->List β) {K:List α} {j:Nat} {k:α} (hk:K[j]? =some k):(K.take (j+1)).flatMap f=(K.take j).flatMap f++f k:=by rw [List.take_add_one,hk,List.flatMap_append]; simp
theorem zjZ (env:Env) (c:ChD) (h:Right c): ∀(n:Nat) (i:Int), -1<=i->(c.states.length:Int)<=i+n->Con Tryz.prog env 156 [.agg (chAV c),I i] (.own 3 1 ((walkL c i).map zad))
 | n,i,hi,hn=>by
   have hlen:=h.few
   have f0:=zbf env c i false (by omega)
   have hw:=walk_eq h hi
   have hwl:=ziy h hi
   have hKl:=zbb h i false
   have hKm: ∀k∈kidsL c i false,i< (k:Int)/\k<c.states.length:=fun k hk=>za5 h hk
   generalize kidsL c i false=K at*
   rw [hw] at hwl
   refine zaa Tryz.func156 rfl Tryz.call156 (by rw [Tryz.ntmps156]; simp) ?_
   rw [Tryz.ntmps156,Tryz.results156]
   have F:=chAV.eq_1
   repeat (first | refine st ?_ | refine cC f0 ?_)
   refine zac (D:=Nat) (fun j vs=>[(2, .loc 2 (vs 2) 0 0),(5, .row 8 (vs 8)),(6, .row 11 (vs 11)),(7,I j)]) (fun j _=>[(2,⟨5,[chAV c],26,false⟩),(8,⟨1,((K.take j).flatMap fun k=>k::walkL c k).map zad,3,true⟩),(11,⟨1,K.map zad,3,true⟩)]) (fun j _ esc=>j<=K.length/\esc 8=false) (fun j=>K.length-j) 0 ?_ ?_ ?_ ?_
   ·exact⟨Nat.zero_le _,rfl⟩
   ·(simp only [go_sem,F])
   ·have F:=chAV.eq_1
    (simp only [go_sem,F])
    try rfl
   rintro j ws esc ⟨hj,e0⟩
   by_cases hlt:j<K.length
   ·obtain⟨k,hk⟩: ∃k,K[j]? =some k:=⟨K[j],List.getElem?_eq_getElem hlt⟩
    have hkm:=hKm k (List.mem_of_getElem? hk)
    have q1:=nlt hlt
    have q2:=zab hlt (by omega)
    match n,hn with
    | 0,hn=>omega
    | n+1,hn=>
    have f1:=zjZ env c h n k (by omega) (by omega)
    have hp:=zsy (fun k=>k::walkL c k) K (j+1)
    have hsu:=zqS (fun k=>k::walkL c k) hk
    rw [hsu] at hp
    simp only [List.length_append,List.length_cons] at hp
    generalize hA:(K.take j).flatMap (fun k=>k::walkL c k)=A at*
    have hf1:Fits (A.length+1) 8:=zai (by omega) (by omega)
    have hf2:Fits (A.length+1+(walkL c k).length) 8:=zai (by omega) (by omega)
    have F:=ai chAV.eq_1<|ai zad.eq_1<|ai hk<|ai q1<|ai q2<|ai hf1<|ai hf2<|e0
    repeat (first | refine st ?_ | refine cC f1 ?_)
    refine⟨j+1,⟨hlt,by simp only [go_sem,e0]⟩, ?_, ?_,by omega⟩
    ·(simp only [go_sem,F])
    ·have F:=ai chAV.eq_1<|ai zad.eq_1<|hsu
     (simp only [go_sem,List.map_append,List.append_assoc,F])
   ·obtain rfl:j=K.length:=by omega
    have q1: ¬(K.length:Int)< (K.length:Int):=by omega
    have hta:K.take K.length=K:=List.take_length
    rw [hw]
    have F:=ai zad.eq_1<|ai q1<|ai hta<|e0
    repeat refine st ?_
    exact aR
termination_by n=>n
def inTo (l W:List Nat) (j:Nat):List Nat:=(W.take j).filter fun k:Nat=>inL l (k:Int)
theorem zqE {l W:List Nat} {j k:Nat} (h:W[j]? =some k):inTo l W (j+1)=if inL l (k:Int) then inTo l W j++[k] else inTo l W j:=by
 unfold inTo
 rw [List.take_add_one,h,List.filter_append]
 cases hb:inL l (k:Int)<;>simp [hb]
theorem zsw (l W:List Nat) (j:Nat):(inTo l W j).length<=W.length:=by
 unfold inTo
 exact Nat.le_trans (List.length_filter_le ..) (by rw [List.length_take]; omega)
theorem zu4 (l:List Nat) (n:Int):inL l n=(zL l).contains n:=by
 rw [Bool.eq_iff_iff,zjf,List.contains_iff_mem]
 unfold zL
 rw [List.mem_map]
theorem zpz {c:ChD} {l:List Nat} {j k:Nat} (h:((zL l).take j).all (inZ c)=true) (hk:l[j]? =some k) (hz:inZ c k=true):((zL l).take (j+1)).all (inZ c)=true:=by
 have:(zL l)[j]? =some ((k:Nat):Int):=by unfold zL; rw [List.getElem?_map,hk]; rfl
 exact zmO h this hz
theorem zj2 (env:Env) (c:ChD) (h:Right c) (l:List Nat) (hl:l.length<=1000000):Con Tryz.prog env 78 [.agg (chAV c), .seq 1 (l.map zad)] (.own 3 1 ((sortL c (zL l)).map zad)):=by
 have hlen:=h.few
 refine zan Tryz.func78 rfl Tryz.call78 (by rw [Tryz.ntmps78]; simp) ?_
 rw [Tryz.ntmps78,Tryz.results78]
 have F:=chAV.eq_1
 repeat refine st ?_
 refine zac (D:=Nat) (fun j vs=>[(1, .seq 1 (l.map zad)),(2, .loc 2 (vs 2) 0 0),(5,I j)]) (fun _ _=>[(2,⟨5,[chAV c],26,false⟩)]) (fun j _ _=>j<=l.length/\((zL l).take j).all (inZ c)=true) (fun j=>l.length-j) 0 ?_ ?_ ?_ ?_
 ·exact⟨Nat.zero_le _,rfl⟩
 ·(simp only [go_sem,F])
 ·have F:=chAV.eq_1
  (simp only [go_sem,F])
 rintro j ws esc ⟨hj,hall⟩
 by_cases hlt:j<l.length
 ·obtain⟨k,hk⟩: ∃k,l[j]? =some k:=⟨l[j],List.getElem?_eq_getElem hlt⟩
  have q1:=nlt hlt
  have q2:=zab hlt (by omega)
  have f0:=ziZ env c k
  cases hz:inZ c k with
  | false=>
    rw [hz] at f0
    have F:=ai chAV.eq_1<|ai zad.eq_1<|ai q1<|ai q2<|hk
    repeat (first | refine st ?_ | refine cC f0 ?_)
    (refine zaf ?_; refine⟨_,(by show (zao _ _ _).run _=some _; simp only [go_sem,F]; rfl), ?_⟩)
    rw [show sortL c (zL l)=[] from zmP (show (zL l)[j]? =some ((k:Nat):Int) by unfold zL; rw [List.getElem?_map,hk]; rfl) hz]
    exact RStr.own_nil _ _ (by decide)
  | true=>
    rw [hz] at f0
    have F:=ai chAV.eq_1<|ai zad.eq_1<|ai q1<|ai q2<|hk
    repeat (first | refine st ?_ | refine cC f0 ?_)
    refine⟨j+1,⟨hlt,zpz hall hk hz⟩, ?_, ?_,by omega⟩
    ·(simp only [go_sem,F])
    ·(simp only [go_sem,F])
 obtain rfl:j=l.length:=by omega
 have q1: ¬(l.length:Int)< (l.length:Int):=by omega
 have f1:=zjZ env c h 40 (-1) (by omega) (by omega)
 have hwl:=ziy h (show (-1:Int)<= -1 by omega)
 have hall:(zL l).all (inZ c)=true:=by rwa [List.take_of_length_le (by simp [zL])] at hall
 have hsort:sortL c (zL l)=inTo l (walkL c (-1)) (walkL c (-1)).length:=by
  unfold sortL inTo
  rw [if_pos hall,List.take_length]
  apply List.filter_congr
  intro k _
  rw [zu4]
 rw [hsort]
 generalize walkL c (-1)=W at*
 have F:=ai chAV.eq_1<|q1
 repeat (first | refine st ?_ | refine cC f1 ?_)
 refine zac (D:=Nat) (fun j vs=>[(1, .seq 1 (l.map zad)),(6, .row 22 (vs 22)),(7, .row 24 (vs 24)),(8,I j)]) (fun j _=>[(22,⟨1,(inTo l W j).map zad,3,true⟩),(24,⟨1,W.map zad,3,true⟩)]) (fun j _ esc=>j<=W.length/\esc 22=false) (fun j=>W.length-j) 0 ?_ ?_ ?_ ?_
 ·exact⟨Nat.zero_le _,rfl⟩
 ·(simp only [go_sem,F])
 ·(simp only [go_sem,F])
  try rfl
 try clear q1
 rintro j ws esc ⟨hj,e0⟩
 by_cases hlt:j<W.length
 ·obtain⟨k,hk⟩: ∃k,W[j]? =some k:=⟨W[j],List.getElem?_eq_getElem hlt⟩
  have q1:=nlt hlt
  have q2:=zab hlt (by omega)
  have f0:=zi0 env l k (by omega)
  have hil:=zsw l W j
  have hf:Fits ((inTo l W j).length+1) 8:=zai (by omega) (by omega)
  have hn:=zqE (l:=l) hk
  cases hb:inL l k with
  | true=>
    rw [hb] at f0
    rw [hb,if_pos rfl] at hn
    have F:=ai zad.eq_1<|ai q1<|ai q2<|ai hk<|ai hf<|e0
    repeat (first | refine st ?_ | refine cC f0 ?_)
    refine⟨j+1,⟨hlt,by simp only [go_sem,e0]⟩, ?_, ?_,by omega⟩
    ·(simp only [go_sem,F])
    ·have F:=ai zad.eq_1<|hn
     (simp only [go_sem,List.map_append,F])
  | false=>
    rw [hb] at f0
    rw [hb,if_neg Bool.false_ne_true] at hn
    have F:=ai zad.eq_1<|ai q1<|ai q2<|ai hk<|ai hf<|e0
    repeat (first | refine st ?_ | refine cC f0 ?_)
    refine⟨j+1,⟨hlt,by simp only [go_sem,e0]⟩, ?_, ?_,by omega⟩
    ·(simp only [go_sem,F])
    ·have F:=ai zad.eq_1<|hn
     (simp only [go_sem,List.map_append,F])
 ·obtain rfl:j=W.length:=by omega
  have q1: ¬(W.length:Int)< (W.length:Int):=by omega
  have F:=ai q1<|e0
  repeat refine st ?_
  (refine zaf ?_; refine⟨_,(by show (zao _ _ _).run _=some _; simp only [go_sem,F]; rfl), ?_⟩)
  exact RStr.refl _
end

end Go.Proofs.YtnbjaghjdeicmaaGreatDoor