/- The document's words on tables: At, Begin, Memories. -/
import Derived.Test.YtnbjaghjdeicmaaGreatDoorG16
import Derived.Test.YtnbjaghjdeicmaaGreatDoorG5
import Derived.Test.YtnbjaghjdeicmaaGreatDoorG12
import Derived.Test.YtnbjaghjdeicmaaGreatDoorG15
import Derived.Test.YtnbjaghjdeicmaaGreatDoorG10
import Derived.Test.YtnbjaghjdeicmaaGreatDoorG4
set_option maxRecDepth 100000
set_option maxHeartbeats 8000000
set_option linter.unusedSimpArgs false
namespace Go.Proofs.YtnbjaghjdeicmaaGreatDoor
open Go.RowKit
section
theorem zsh {α:Type} [DecidableEq α] (l:List α):(0< (l.length:Int))=((l == [])=false):=by
 rw [eq_iff_iff]
 cases l<;>simp
theorem ziG (env:Env) (c:ChD) (hn:c.states.length<=1000000) (i:Nat) (s:StD) (hs:c.states[i]? =some s) (hp:s.parent= -1):Con Tryz.prog env 112 [.agg (chAV c),I i] (B (zay c i s)):=by
 have hi:i<c.states.length:=(List.getElem?_eq_some_iff.1 hs).1
 have k0:=nlt hi
 have f1:=zaX env s.name
 have f2:=zjC env c s.name hn
 have f3:=zdL env c s.inn
 have f4:=zdL env c s.out
 have f5:=zbS env c (i:Int) true hn
 have f6:=zbS env c (i:Int) false hn
 have f7:=zbi env s
 have hlen:(kidsL c i true).length<=1000000:=by
  have:=zbd c i true c.states.length
  unfold kidsL
  omega
 have f8:=zle env (kidsL c i true) s.initial hlen
 have f9:=zfQ env c (kidsL c i true) hlen (fun k hk=>(ze3 hk).1)
 have z1:=zb4 (kidsL c i true)
 have z2:=zsh (kidsL c i false)
 have z3:=zb4 s.out
 have z4:=zb4 s.inn
 refine zaa Tryz.func112 rfl Tryz.call112 (by rw [Tryz.ntmps112]; simp) ?_
 rw [Tryz.ntmps112,Tryz.results112]
 cases e1:zaC s.name
 ·rw [show zay c i s=false by unfold zay; rw [e1]; rfl]
  have F:=ai chAV.eq_1<|ai stAV.eq_1<|ai k0<|ai hs<|ai bneA<|e1
  repeat (first | refine st ?_ | refine cC f1 ?_)
  exact aR
 cases e2:(zhJ c s.name==(i:Int))
 ·rw [show zay c i s=false by unfold zay; rw [e2]; simp]
  have F:=ai chAV.eq_1<|ai stAV.eq_1<|ai k0<|ai hs<|ai bneA<|ai e1<|e2
  repeat (first | refine st ?_ | refine cC f1 ?_ | refine cC f2 ?_)
  exact aR
 cases e3:zbY c.vars.length c.states.length s.inn
 ·rw [show zay c i s=false by unfold zay; rw [e3]; simp]
  have F:=ai chAV.eq_1<|ai stAV.eq_1<|ai k0<|ai hs<|ai bneA<|ai e1<|ai e2<|e3
  repeat (first | refine st ?_ | refine cC f1 ?_ | refine cC f2 ?_ | refine cC f3 ?_)
  exact aR
 cases e4:zbY c.vars.length c.states.length s.out
 ·rw [show zay c i s=false by unfold zay; rw [e4]; simp]
  have F:=ai chAV.eq_1<|ai stAV.eq_1<|ai k0<|ai hs<|ai bneA<|ai e1<|ai e2<|ai e3<|e4
  repeat (first | refine st ?_ | refine cC f1 ?_ | refine cC f2 ?_ | refine cC f3 ?_ | refine cC f4 ?_)
  exact aR
 have hpar:zaV c i s=true:=by unfold zaV; rw [hp]; rfl
 have hu:zaW c s=false:=by unfold zaW at_; rw [hp]; rfl
 have hpp:((s.parent == -1)||zaW c s)=true:=by rw [hp]; rfl
 have fu:=zhW env c s (by omega)
 have hst:zay c i s=zas c i s:=by unfold zay; rw [e1,e2,e3,e4,hpar]; simp
 rw [hst]
 by_cases hk1:s.kind=1
 ·cases e5:(kidsL c i true == [])
  ·rw [show zas c i s=inL (kidsL c i true) s.initial by unfold zas; rw [if_pos hk1,if_neg (by simpa using e5)]]
   have F:=ai chAV.eq_1<|ai stAV.eq_1<|ai k0<|ai hs<|ai bneA<|ai e1<|ai e2<|ai e3<|ai e4<|ai hp<|ai hk1<|ai z1<|e5
   repeat (first | refine st ?_ | refine cC f1 ?_ | refine cC f2 ?_ | refine cC f3 ?_ | refine cC f4 ?_ | refine cC f5 ?_ | refine cC f8 ?_)
   exact aR
  ·rw [show zas c i s=(s.initial == -1) by unfold zas; rw [if_pos hk1,if_pos (by simpa using e5)]]
   have F:=ai chAV.eq_1<|ai stAV.eq_1<|ai k0<|ai hs<|ai bneA<|ai e1<|ai e2<|ai e3<|ai e4<|ai hp<|ai hk1<|ai z1<|e5
   repeat (first | refine st ?_ | refine cC f1 ?_ | refine cC f2 ?_ | refine cC f3 ?_ | refine cC f4 ?_ | refine cC f5 ?_ | refine cC f8 ?_)
   exact aR
 have b1:=zbk hk1
 by_cases hk2:s.kind=2
 ·have hr:zas c i s=(((kidsL c i true).all fun k=>zaM c k)&&decide (0< (kidsL c i true).length)&&(s.initial == -1)):=by unfold zas; rw [if_neg hk1,if_pos hk2]
  rw [hr]
  cases e5:(s.initial == -1)
  ·rw [Bool.and_false]
   have F:=ai chAV.eq_1<|ai stAV.eq_1<|ai k0<|ai hs<|ai bneA<|ai e1<|ai e2<|ai e3<|ai e4<|ai hp<|ai hk2<|e5
   repeat (first | refine st ?_ | refine cC f1 ?_ | refine cC f2 ?_ | refine cC f3 ?_ | refine cC f4 ?_ | refine cC f5 ?_ | refine cC f9 ?_)
   exact aR
  ·rw [Bool.and_true]
   have F:=ai chAV.eq_1<|ai stAV.eq_1<|ai k0<|ai hs<|ai bneA<|ai e1<|ai e2<|ai e3<|ai e4<|ai hp<|ai hk2<|e5
   repeat (first | refine st ?_ | refine cC f1 ?_ | refine cC f2 ?_ | refine cC f3 ?_ | refine cC f4 ?_ | refine cC f5 ?_ | refine cC f9 ?_)
   exact aR
 have b2:=zbk hk2
 cases e5:(kidsL c i false == [])
 ·rw [show zas c i s=false by unfold zas; rw [if_neg hk1,if_neg hk2,e5]; simp]
  have F:=ai chAV.eq_1<|ai stAV.eq_1<|ai k0<|ai hs<|ai bneA<|ai e1<|ai e2<|ai e3<|ai e4<|ai hp<|ai b1<|ai b2<|ai z2<|e5
  repeat (first | refine st ?_ | refine cC f1 ?_ | refine cC f2 ?_ | refine cC f3 ?_ | refine cC f4 ?_ | refine cC f5 ?_ | refine cC f6 ?_)
  exact aR
 by_cases hk3:s.kind=3
 ·have hr:zas c i s=((kidsL c i false == [])&&((s.parent == -1)||zaW c s)&&(s.initial == -1)&&(s.out == [])):=by unfold zas; rw [if_neg hk1,if_neg hk2,if_pos hk3]
  rw [hr,e5,hpp]
  cases e6:(s.initial == -1)
  ·rw [Bool.and_false,Bool.false_and]
   have F:=ai chAV.eq_1<|ai stAV.eq_1<|ai k0<|ai hs<|ai bneA<|ai e1<|ai e2<|ai e3<|ai e4<|ai hp<|ai hk3<|ai z2<|ai e5<|e6
   repeat (first | refine st ?_ | refine cC f1 ?_ | refine cC f2 ?_ | refine cC f3 ?_ | refine cC f4 ?_ | refine cC f5 ?_ | refine cC f6 ?_ | refine cC fu ?_)
   exact aR
  cases e7:(s.out == [])
  ·rw [Bool.and_false]
   have F:=ai chAV.eq_1<|ai stAV.eq_1<|ai k0<|ai hs<|ai bneA<|ai e1<|ai e2<|ai e3<|ai e4<|ai hp<|ai hk3<|ai z2<|ai z3<|ai e5<|ai e6<|e7
   repeat (first | refine st ?_ | refine cC f1 ?_ | refine cC f2 ?_ | refine cC f3 ?_ | refine cC f4 ?_ | refine cC f5 ?_ | refine cC f6 ?_ | refine cC fu ?_)
   exact aR
  have F:=ai chAV.eq_1<|ai stAV.eq_1<|ai k0<|ai hs<|ai bneA<|ai e1<|ai e2<|ai e3<|ai e4<|ai hp<|ai hk3<|ai z2<|ai z3<|ai e5<|ai e6<|e7
  repeat (first | refine st ?_ | refine cC f1 ?_ | refine cC f2 ?_ | refine cC f3 ?_ | refine cC f4 ?_ | refine cC f5 ?_ | refine cC f6 ?_ | refine cC fu ?_)
  exact aR
 have b3:=zbk hk3
 by_cases hk45:s.kind=4\/s.kind=5
 ·have hr:zas c i s=((kidsL c i false == [])&&zaW c s&&inL (kidsL c s.parent true) s.initial&&(s.inn == [])&&(s.out == [])):=by unfold zas; rw [if_neg hk1,if_neg hk2,if_neg hk3,if_pos hk45]
  have e6:zbh s=true:=by unfold zbh; simpa using hk45
  rw [hr,e5,Bool.true_and]
  rw [hu,Bool.false_and,Bool.false_and,Bool.false_and]
  have F:=ai chAV.eq_1<|ai stAV.eq_1<|ai k0<|ai hs<|ai bneA<|ai e1<|ai e2<|ai e3<|ai e4<|ai hp<|ai b1<|ai b2<|ai b3<|ai z2<|ai e5<|ai e6<|hu
  repeat (first | refine st ?_ | refine cC f1 ?_ | refine cC f2 ?_ | refine cC f3 ?_ | refine cC f4 ?_ | refine cC f5 ?_ | refine cC f6 ?_ | refine cC f7 ?_ | refine cC fu ?_)
  exact aR
 have e6:zbh s=false:=by unfold zbh; simpa using hk45
 rw [show zas c i s=false by unfold zas; rw [if_neg hk1,if_neg hk2,if_neg hk3,if_neg hk45]]
 have F:=ai chAV.eq_1<|ai stAV.eq_1<|ai k0<|ai hs<|ai bneA<|ai e1<|ai e2<|ai e3<|ai e4<|ai hp<|ai b1<|ai b2<|ai b3<|ai z2<|ai e5<|e6
 repeat (first | refine st ?_ | refine cC f1 ?_ | refine cC f2 ?_ | refine cC f3 ?_ | refine cC f4 ?_ | refine cC f5 ?_ | refine cC f6 ?_ | refine cC f7 ?_)
 exact aR
end
section
theorem zqK {α:Type} [DecidableEq α] (l:List α):(0< (l.length:Int))=((l == [])=false):=by
 rw [eq_iff_iff]
 cases l<;>simp
theorem zjz (env:Env) (c:ChD) (hn:c.states.length<=1000000) (i:Nat) (s:StD) (hs:c.states[i]? =some s) (hp: ¬s.parent= -1):Con Tryz.prog env 112 [.agg (chAV c),I i] (B (zay c i s)):=by
 have hi:i<c.states.length:=(List.getElem?_eq_some_iff.1 hs).1
 have k0:=nlt hi
 have f1:=zaX env s.name
 have f2:=zjC env c s.name hn
 have f3:=zdL env c s.inn
 have f4:=zdL env c s.out
 have f5:=zbS env c (i:Int) true hn
 have f6:=zbS env c (i:Int) false hn
 have f7:=zbi env s
 have hlen:(kidsL c i true).length<=1000000:=by
  have:=zbd c i true c.states.length
  unfold kidsL
  omega
 have f8:=zle env (kidsL c i true) s.initial hlen
 have f9:=zfQ env c (kidsL c i true) hlen (fun k hk=>(ze3 hk).1)
 have z1:=zb4 (kidsL c i true)
 have z2:=zqK (kidsL c i false)
 have z3:=zb4 s.out
 have z4:=zb4 s.inn
 refine zaa Tryz.func112 rfl Tryz.call112 (by rw [Tryz.ntmps112]; simp) ?_
 rw [Tryz.ntmps112,Tryz.results112]
 cases e1:zaC s.name
 ·rw [show zay c i s=false by unfold zay; rw [e1]; rfl]
  have F:=ai chAV.eq_1<|ai stAV.eq_1<|ai k0<|ai hs<|ai bneA<|e1
  repeat (first | refine st ?_ | refine cC f1 ?_)
  exact aR
 cases e2:(zhJ c s.name==(i:Int))
 ·rw [show zay c i s=false by unfold zay; rw [e2]; simp]
  have F:=ai chAV.eq_1<|ai stAV.eq_1<|ai k0<|ai hs<|ai bneA<|ai e1<|e2
  repeat (first | refine st ?_ | refine cC f1 ?_ | refine cC f2 ?_)
  exact aR
 cases e3:zbY c.vars.length c.states.length s.inn
 ·rw [show zay c i s=false by unfold zay; rw [e3]; simp]
  have F:=ai chAV.eq_1<|ai stAV.eq_1<|ai k0<|ai hs<|ai bneA<|ai e1<|ai e2<|e3
  repeat (first | refine st ?_ | refine cC f1 ?_ | refine cC f2 ?_ | refine cC f3 ?_)
  exact aR
 cases e4:zbY c.vars.length c.states.length s.out
 ·rw [show zay c i s=false by unfold zay; rw [e4]; simp]
  have F:=ai chAV.eq_1<|ai stAV.eq_1<|ai k0<|ai hs<|ai bneA<|ai e1<|ai e2<|ai e3<|e4
  repeat (first | refine st ?_ | refine cC f1 ?_ | refine cC f2 ?_ | refine cC f3 ?_ | refine cC f4 ?_)
  exact aR
 have b0:=zbk hp
 by_cases p1:s.parent<0
 ·rw [show zay c i s=false by unfold zay zaV; rw [b0,decide_eq_false (show ¬0<=s.parent by omega)]; simp]
  have F:=ai chAV.eq_1<|ai stAV.eq_1<|ai k0<|ai hs<|ai bneA<|ai e1<|ai e2<|ai e3<|ai e4<|ai b0<|p1
  repeat (first | refine st ?_ | refine cC f1 ?_ | refine cC f2 ?_ | refine cC f3 ?_ | refine cC f4 ?_)
  exact aR
 obtain⟨m,hm⟩:=zeq (show 0<=s.parent by omega)
 have p1: ¬(m:Int)<0:=by omega
 have b0:((m:Int) == -1)=false:=zbk (by omega)
 by_cases p2:(i:Int)<=(m:Int)
 ·rw [show zay c i s=false by unfold zay zaV; rw [hm,b0,decide_eq_false (show ¬(m:Int)<i by omega)]; simp]
  have F:=ai chAV.eq_1<|ai stAV.eq_1<|ai k0<|ai hs<|ai bneA<|ai e1<|ai e2<|ai e3<|ai e4<|ai hm<|ai b0<|ai p1<|p2
  repeat (first | refine st ?_ | refine cC f1 ?_ | refine cC f2 ?_ | refine cC f3 ?_ | refine cC f4 ?_)
  exact aR
 obtain⟨q,hq,_⟩:=zap (show m<c.states.length by omega)
 have p3:=nlt (show m<c.states.length by omega)
 have fn:=zde env q
 have hnq:zaM c (m:Int)=zcq q:=by unfold zaM; rw [zce,hq]
 cases p4:zcq q
 ·rw [show zay c i s=false by unfold zay zaV; rw [hm,b0,hnq,p4]; simp]
  have F:=ai chAV.eq_1<|ai stAV.eq_1<|ai k0<|ai hs<|ai bneA<|ai e1<|ai e2<|ai e3<|ai e4<|ai hm<|ai b0<|ai p1<|ai p2<|ai p3<|ai p4<|hq
  repeat (first | refine st ?_ | refine cC f1 ?_ | refine cC f2 ?_ | refine cC f3 ?_ | refine cC f4 ?_ | refine cC fn ?_)
  exact aR
 have hpar:zaV c i s=true:=by unfold zaV; rw [hm,b0,hnq,p4]; simp; omega
 have hpp:((s.parent == -1)||zaW c s)=(false||zaW c s):=by rw [hm,b0]
 have fu:=zhW env c s (by omega)
 have g5:=zbS env c (m:Int) true hn
 have hlen2:(kidsL c m true).length<=1000000:=by
  have:=zbd c m true c.states.length
  unfold kidsL
  omega
 have g8:=zle env (kidsL c m true) s.initial hlen2
 have hst:zay c i s=zas c i s:=by unfold zay; rw [e1,e2,e3,e4,hpar]; simp
 rw [hst]
 by_cases hk1:s.kind=1
 ·cases e5:(kidsL c i true == [])
  ·rw [show zas c i s=inL (kidsL c i true) s.initial by unfold zas; rw [if_pos hk1,if_neg (by simpa using e5)]]
   have F:=ai chAV.eq_1<|ai stAV.eq_1<|ai k0<|ai hs<|ai bneA<|ai e1<|ai e2<|ai e3<|ai e4<|ai hm<|ai b0<|ai p1<|ai p2<|ai p3<|ai p4<|ai hq<|ai hk1<|ai z1<|e5
   repeat (first | refine st ?_ | refine cC f1 ?_ | refine cC f2 ?_ | refine cC f3 ?_ | refine cC f4 ?_ | refine cC fn ?_ | refine cC f5 ?_ | refine cC f8 ?_)
   exact aR
  ·rw [show zas c i s=(s.initial == -1) by unfold zas; rw [if_pos hk1,if_pos (by simpa using e5)]]
   have F:=ai chAV.eq_1<|ai stAV.eq_1<|ai k0<|ai hs<|ai bneA<|ai e1<|ai e2<|ai e3<|ai e4<|ai hm<|ai b0<|ai p1<|ai p2<|ai p3<|ai p4<|ai hq<|ai hk1<|ai z1<|e5
   repeat (first | refine st ?_ | refine cC f1 ?_ | refine cC f2 ?_ | refine cC f3 ?_ | refine cC f4 ?_ | refine cC fn ?_ | refine cC f5 ?_ | refine cC f8 ?_)
   exact aR
 have b1:=zbk hk1
 by_cases hk2:s.kind=2
 ·have hr:zas c i s=(((kidsL c i true).all fun k=>zaM c k)&&decide (0< (kidsL c i true).length)&&(s.initial == -1)):=by unfold zas; rw [if_neg hk1,if_pos hk2]
  rw [hr]
  cases e5:(s.initial == -1)
  ·rw [Bool.and_false]
   have F:=ai chAV.eq_1<|ai stAV.eq_1<|ai k0<|ai hs<|ai bneA<|ai e1<|ai e2<|ai e3<|ai e4<|ai hm<|ai b0<|ai p1<|ai p2<|ai p3<|ai p4<|ai hq<|ai hk2<|e5
   repeat (first | refine st ?_ | refine cC f1 ?_ | refine cC f2 ?_ | refine cC f3 ?_ | refine cC f4 ?_ | refine cC fn ?_ | refine cC f5 ?_ | refine cC f9 ?_)
   exact aR
  ·rw [Bool.and_true]
   have F:=ai chAV.eq_1<|ai stAV.eq_1<|ai k0<|ai hs<|ai bneA<|ai e1<|ai e2<|ai e3<|ai e4<|ai hm<|ai b0<|ai p1<|ai p2<|ai p3<|ai p4<|ai hq<|ai hk2<|e5
   repeat (first | refine st ?_ | refine cC f1 ?_ | refine cC f2 ?_ | refine cC f3 ?_ | refine cC f4 ?_ | refine cC fn ?_ | refine cC f5 ?_ | refine cC f9 ?_)
   exact aR
 have b2:=zbk hk2
 cases e5:(kidsL c i false == [])
 ·rw [show zas c i s=false by unfold zas; rw [if_neg hk1,if_neg hk2,e5]; simp]
  have F:=ai chAV.eq_1<|ai stAV.eq_1<|ai k0<|ai hs<|ai bneA<|ai e1<|ai e2<|ai e3<|ai e4<|ai hm<|ai b0<|ai p1<|ai p2<|ai p3<|ai p4<|ai hq<|ai b1<|ai b2<|ai z2<|e5
  repeat (first | refine st ?_ | refine cC f1 ?_ | refine cC f2 ?_ | refine cC f3 ?_ | refine cC f4 ?_ | refine cC fn ?_ | refine cC f5 ?_ | refine cC f6 ?_)
  exact aR
 by_cases hk3:s.kind=3
 ·have hr:zas c i s=((kidsL c i false == [])&&((s.parent == -1)||zaW c s)&&(s.initial == -1)&&(s.out == [])):=by unfold zas; rw [if_neg hk1,if_neg hk2,if_pos hk3]
  rw [hr,e5,hpp]
  cases e6:(s.initial == -1)
  ·rw [Bool.and_false,Bool.false_and]
   have F:=ai chAV.eq_1<|ai stAV.eq_1<|ai k0<|ai hs<|ai bneA<|ai e1<|ai e2<|ai e3<|ai e4<|ai hm<|ai b0<|ai p1<|ai p2<|ai p3<|ai p4<|ai hq<|ai hk3<|ai z2<|ai e5<|e6
   repeat (first | refine st ?_ | refine cC f1 ?_ | refine cC f2 ?_ | refine cC f3 ?_ | refine cC f4 ?_ | refine cC fn ?_ | refine cC f5 ?_ | refine cC f6 ?_ | refine cC fu ?_)
   exact aR
  cases e7:(s.out == [])
  ·rw [Bool.and_false]
   have F:=ai chAV.eq_1<|ai stAV.eq_1<|ai k0<|ai hs<|ai bneA<|ai e1<|ai e2<|ai e3<|ai e4<|ai hm<|ai b0<|ai p1<|ai p2<|ai p3<|ai p4<|ai hq<|ai hk3<|ai z2<|ai z3<|ai e5<|ai e6<|e7
   repeat (first | refine st ?_ | refine cC f1 ?_ | refine cC f2 ?_ | refine cC f3 ?_ | refine cC f4 ?_ | refine cC fn ?_ | refine cC f5 ?_ | refine cC f6 ?_ | refine cC fu ?_)
   exact aR
  rw [Bool.true_and,Bool.and_true,Bool.and_true,Bool.false_or]
  have F:=ai chAV.eq_1<|ai stAV.eq_1<|ai k0<|ai hs<|ai bneA<|ai e1<|ai e2<|ai e3<|ai e4<|ai hm<|ai b0<|ai p1<|ai p2<|ai p3<|ai p4<|ai hq<|ai hk3<|ai z2<|ai z3<|ai e5<|ai e6<|e7
  repeat (first | refine st ?_ | refine cC f1 ?_ | refine cC f2 ?_ | refine cC f3 ?_ | refine cC f4 ?_ | refine cC fn ?_ | refine cC f5 ?_ | refine cC f6 ?_ | refine cC fu ?_)
  exact aR
 have b3:=zbk hk3
 by_cases hk45:s.kind=4\/s.kind=5
 ·have hr:zas c i s=((kidsL c i false == [])&&zaW c s&&inL (kidsL c s.parent true) s.initial&&(s.inn == [])&&(s.out == [])):=by unfold zas; rw [if_neg hk1,if_neg hk2,if_neg hk3,if_pos hk45]
  have e6:zbh s=true:=by unfold zbh; simpa using hk45
  rw [hr,e5,Bool.true_and]
  cases e7:zaW c s
  ·rw [Bool.false_and,Bool.false_and,Bool.false_and]
   have F:=ai chAV.eq_1<|ai stAV.eq_1<|ai k0<|ai hs<|ai bneA<|ai e1<|ai e2<|ai e3<|ai e4<|ai hm<|ai b0<|ai p1<|ai p2<|ai p3<|ai p4<|ai hq<|ai b1<|ai b2<|ai b3<|ai z2<|ai e5<|ai e6<|e7
   repeat (first | refine st ?_ | refine cC f1 ?_ | refine cC f2 ?_ | refine cC f3 ?_ | refine cC f4 ?_ | refine cC fn ?_ | refine cC f5 ?_ | refine cC f6 ?_ | refine cC f7 ?_ | refine cC fu ?_)
   exact aR
  rw [hm,Bool.true_and]
  cases e8:inL (kidsL c m true) s.initial
  ·rw [Bool.false_and,Bool.false_and]
   have F:=ai chAV.eq_1<|ai stAV.eq_1<|ai k0<|ai hs<|ai bneA<|ai e1<|ai e2<|ai e3<|ai e4<|ai hm<|ai b0<|ai p1<|ai p2<|ai p3<|ai p4<|ai hq<|ai b1<|ai b2<|ai b3<|ai z2<|ai e5<|ai e6<|ai e7<|e8
   repeat (first | refine st ?_ | refine cC f1 ?_ | refine cC f2 ?_ | refine cC f3 ?_ | refine cC f4 ?_ | refine cC fn ?_ | refine cC f5 ?_ | refine cC f6 ?_ | refine cC f7 ?_ | refine cC fu ?_ | refine cC g5 ?_ | refine cC g8 ?_)
   exact aR
  cases e9:(s.inn == [])
  ·rw [Bool.and_false,Bool.false_and]
   have F:=ai chAV.eq_1<|ai stAV.eq_1<|ai k0<|ai hs<|ai bneA<|ai e1<|ai e2<|ai e3<|ai e4<|ai hm<|ai b0<|ai p1<|ai p2<|ai p3<|ai p4<|ai hq<|ai b1<|ai b2<|ai b3<|ai z2<|ai z4<|ai e5<|ai e6<|ai e7<|ai e8<|e9
   repeat (first | refine st ?_ | refine cC f1 ?_ | refine cC f2 ?_ | refine cC f3 ?_ | refine cC f4 ?_ | refine cC fn ?_ | refine cC f5 ?_ | refine cC f6 ?_ | refine cC f7 ?_ | refine cC fu ?_ | refine cC g5 ?_ | refine cC g8 ?_)
   exact aR
  rw [Bool.true_and,Bool.true_and]
  have F:=ai chAV.eq_1<|ai stAV.eq_1<|ai k0<|ai hs<|ai bneA<|ai e1<|ai e2<|ai e3<|ai e4<|ai hm<|ai b0<|ai p1<|ai p2<|ai p3<|ai p4<|ai hq<|ai b1<|ai b2<|ai b3<|ai z2<|ai z3<|ai z4<|ai e5<|ai e6<|ai e7<|ai e8<|e9
  repeat (first | refine st ?_ | refine cC f1 ?_ | refine cC f2 ?_ | refine cC f3 ?_ | refine cC f4 ?_ | refine cC fn ?_ | refine cC f5 ?_ | refine cC f6 ?_ | refine cC f7 ?_ | refine cC fu ?_ | refine cC g5 ?_ | refine cC g8 ?_)
  exact aR
 have e6:zbh s=false:=by unfold zbh; simpa using hk45
 rw [show zas c i s=false by unfold zas; rw [if_neg hk1,if_neg hk2,if_neg hk3,if_neg hk45]]
 have F:=ai chAV.eq_1<|ai stAV.eq_1<|ai k0<|ai hs<|ai bneA<|ai e1<|ai e2<|ai e3<|ai e4<|ai hm<|ai b0<|ai p1<|ai p2<|ai p3<|ai p4<|ai hq<|ai b1<|ai b2<|ai b3<|ai z2<|ai e5<|e6
 repeat (first | refine st ?_ | refine cC f1 ?_ | refine cC f2 ?_ | refine cC f3 ?_ | refine cC f4 ?_ | refine cC fn ?_ | refine cC f5 ?_ | refine cC f6 ?_ | refine cC f7 ?_)
 exact aR
end
section
theorem znd (env:Env) (c:ChD) (hn:c.states.length<=1000000) (i:Nat) (s:StD) (hs:c.states[i]? =some s):Con Tryz.prog env 112 [.agg (chAV c),I i] (B (zay c i s)):=by
 by_cases hp:s.parent= -1
 ·exact ziG env c hn i s hs hp
 ·exact zjz env c hn i s hs hp
theorem zoD (env:Env) (c:ChD) (t:TrD):Con Tryz.prog env 114 [.agg (chAV c), .agg (trAV t)] (B (zcM c t)):=by
 have f2:=zaX env t.event
 have f3:=zjD env c t.guard
 have f4:=zdL env c t.acts
 have z1:=zb4 t.guard
 refine zaa Tryz.func114 rfl Tryz.call114 (by rw [Tryz.ntmps114]; simp) ?_
 rw [Tryz.ntmps114,Tryz.results114]
 by_cases p1:t.src<0
 ·rw [show zcM c t=false by unfold zcM zaM at_; rw [if_neg (show ¬0<=t.src by omega)]; rfl]
  have F:=ai chAV.eq_1<|ai trAV.eq_1<|p1
  repeat refine st ?_
  exact aR
 obtain⟨m,hm⟩:=zeq (show 0<=t.src by omega)
 have p1: ¬(m:Int)<0:=by omega
 by_cases p2:c.states.length<=m
 ·have p2':(c.states.length:Int)<=(m:Int):=by omega
  rw [show zcM c t=false by unfold zcM zaM; rw [hm,zce,List.getElem?_eq_none p2]; rfl]
  have F:=ai chAV.eq_1<|ai trAV.eq_1<|ai hm<|ai p1<|p2'
  repeat refine st ?_
  exact aR
 have p2': ¬(c.states.length:Int)<=(m:Int):=by omega
 have k0:=nlt (show m<c.states.length by omega)
 obtain⟨q,hq,_⟩:=zap (show m<c.states.length by omega)
 have f1:=zde env q
 have hnq:zaM c t.src=zcq q:=by unfold zaM; rw [hm,zce,hq]
 have hr:zcM c t=(zcq q&&((t.event == [])||zaC t.event)&&((t.guard == [])||za0 t.guard c.vars.length c.states.length)&&zbY c.vars.length c.states.length t.acts&&((t.target == -1)||(decide (0<=t.target)&&decide (t.target<c.states.length)))):=by unfold zcM; rw [hnq]
 rw [hr]
 cases e1:zcq q
 ·rw [Bool.false_and,Bool.false_and,Bool.false_and,Bool.false_and]
  have F:=ai chAV.eq_1<|ai trAV.eq_1<|ai stAV.eq_1<|ai hm<|ai hq<|ai p1<|ai p2'<|ai k0<|e1
  repeat (first | refine st ?_ | refine cC f1 ?_)
  exact aR
 by_cases p3:t.target< -1
 ·rw [show ((t.target == -1)||(decide (0<=t.target)&&decide (t.target<c.states.length)))=false by rw [zbk (show t.target≠ -1 by omega),decide_eq_false (show ¬0<=t.target by omega)]; rfl,Bool.and_false]
  have F:=ai chAV.eq_1<|ai trAV.eq_1<|ai stAV.eq_1<|ai hm<|ai hq<|ai p1<|ai p2'<|ai k0<|ai e1<|p3
  repeat (first | refine st ?_ | refine cC f1 ?_)
  exact aR
 by_cases p4:(c.states.length:Int)<=t.target
 ·rw [show ((t.target == -1)||(decide (0<=t.target)&&decide (t.target<c.states.length)))=false by rw [zbk (show t.target≠ -1 by omega),decide_eq_false (show ¬t.target<c.states.length by omega)]; simp,Bool.and_false]
  have F:=ai chAV.eq_1<|ai trAV.eq_1<|ai stAV.eq_1<|ai hm<|ai hq<|ai p1<|ai p2'<|ai k0<|ai e1<|ai p3<|p4
  repeat (first | refine st ?_ | refine cC f1 ?_)
  exact aR
 rw [show ((t.target == -1)||(decide (0<=t.target)&&decide (t.target<c.states.length)))=true by rw [Bool.or_eq_true,Bool.and_eq_true]; simp; omega,Bool.and_true,Bool.true_and]
 cases e2:(t.event == [])
 ·rw [Bool.false_or]
  cases e3:zaC t.event
  ·rw [Bool.false_and,Bool.false_and]
   have F:=ai chAV.eq_1<|ai trAV.eq_1<|ai stAV.eq_1<|ai hm<|ai hq<|ai p1<|ai p2'<|ai k0<|ai e1<|ai p3<|ai p4<|ai e2<|e3
   repeat (first | refine st ?_ | refine cC f1 ?_ | refine cC f2 ?_)
   exact aR
  rw [Bool.true_and]
  cases e4:(t.guard == [])
  ·rw [Bool.false_or]
   cases e5:za0 t.guard c.vars.length c.states.length
   ·rw [Bool.false_and]
    have F:=ai chAV.eq_1<|ai trAV.eq_1<|ai stAV.eq_1<|ai hm<|ai hq<|ai p1<|ai p2'<|ai k0<|ai e1<|ai p3<|ai p4<|ai e2<|ai e3<|ai z1<|ai e4<|e5
    repeat (first | refine st ?_ | refine cC f1 ?_ | refine cC f2 ?_ | refine cC f3 ?_ | refine cC f4 ?_)
    exact aR
   ·rw [Bool.true_and]
    have F:=ai chAV.eq_1<|ai trAV.eq_1<|ai stAV.eq_1<|ai hm<|ai hq<|ai p1<|ai p2'<|ai k0<|ai e1<|ai p3<|ai p4<|ai e2<|ai e3<|ai z1<|ai e4<|e5
    repeat (first | refine st ?_ | refine cC f1 ?_ | refine cC f2 ?_ | refine cC f3 ?_ | refine cC f4 ?_)
    exact aR
  ·rw [Bool.true_or,Bool.true_and]
   have F:=ai chAV.eq_1<|ai trAV.eq_1<|ai stAV.eq_1<|ai hm<|ai hq<|ai p1<|ai p2'<|ai k0<|ai e1<|ai p3<|ai p4<|ai e2<|ai e3<|ai z1<|e4
   repeat (first | refine st ?_ | refine cC f1 ?_ | refine cC f2 ?_ | refine cC f3 ?_ | refine cC f4 ?_)
   exact aR
 rw [Bool.true_or,Bool.true_and]
 cases e4:(t.guard == [])
 ·rw [Bool.false_or]
  cases e5:za0 t.guard c.vars.length c.states.length
  ·rw [Bool.false_and]
   have F:=ai chAV.eq_1<|ai trAV.eq_1<|ai stAV.eq_1<|ai hm<|ai hq<|ai p1<|ai p2'<|ai k0<|ai e1<|ai p3<|ai p4<|ai e2<|ai z1<|ai e4<|e5
   repeat (first | refine st ?_ | refine cC f1 ?_ | refine cC f2 ?_ | refine cC f3 ?_ | refine cC f4 ?_)
   exact aR
  ·rw [Bool.true_and]
   have F:=ai chAV.eq_1<|ai trAV.eq_1<|ai stAV.eq_1<|ai hm<|ai hq<|ai p1<|ai p2'<|ai k0<|ai e1<|ai p3<|ai p4<|ai e2<|ai z1<|ai e4<|e5
   repeat (first | refine st ?_ | refine cC f1 ?_ | refine cC f2 ?_ | refine cC f3 ?_ | refine cC f4 ?_)
   exact aR
 ·rw [Bool.true_or,Bool.true_and]
  have F:=ai chAV.eq_1<|ai trAV.eq_1<|ai stAV.eq_1<|ai hm<|ai hq<|ai p1<|ai p2'<|ai k0<|ai e1<|ai p3<|ai p4<|ai e2<|ai z1<|e4
  repeat (first | refine st ?_ | refine cC f1 ?_ | refine cC f2 ?_ | refine cC f3 ?_ | refine cC f4 ?_)
  exact aR
abbrev chkT (c:ChD):AV:= .tuple [I (chk c).1,I (chk c).2]
theorem zb7 {c:ChD} {x:Int×Int} (h:chk c=x):chkT c= .tuple [I x.1,I x.2]:=by unfold chkT; rw [h]
theorem znf (env:Env) (c:ChD):Con Tryz.prog env 45 [.agg (chAV c)] (chkT c):=by
 have fname:=zaX env c.name
 have z1:=zb4 c.states
 refine zaa Tryz.func45 rfl Tryz.call45 (by rw [Tryz.ntmps45]; simp) ?_
 rw [Tryz.ntmps45,Tryz.results45]
 by_cases l1:32<c.states.length
 ·have k1:(32:Int)< (c.states.length:Int):=by omega
  rw [zb7 (show chk c=(8, -1) by unfold chk; rw [if_pos (.inl l1)])]
  have F:=ai chAV.eq_1<|k1
  repeat refine st ?_
  exact aR
 have k1: ¬(32:Int)< (c.states.length:Int):=by omega
 by_cases l2:64<c.trans.length
 ·have k2:(64:Int)< (c.trans.length:Int):=by omega
  rw [zb7 (show chk c=(8, -1) by unfold chk; rw [if_pos (.inr (.inl l2))])]
  have F:=ai chAV.eq_1<|ai k1<|k2
  repeat refine st ?_
  exact aR
 have k2: ¬(64:Int)< (c.trans.length:Int):=by omega
 by_cases l3:8<c.vars.length
 ·have k3:(8:Int)< (c.vars.length:Int):=by omega
  rw [zb7 (show chk c=(8, -1) by unfold chk; rw [if_pos (.inr (.inr l3))])]
  have F:=ai chAV.eq_1<|ai k1<|ai k2<|k3
  repeat refine st ?_
  exact aR
 have k3: ¬(8:Int)< (c.vars.length:Int):=by omega
 have hl: ¬(32<c.states.length\/64<c.trans.length\/8<c.vars.length):=by omega
 cases e2:(c.states == [])
 case true=>
  rw [zb7 (show chk c=(1, -1) by unfold chk; rw [if_neg hl,if_pos (.inl (by simpa using e2))])]
  have F:=ai chAV.eq_1<|ai k1<|ai k2<|ai k3<|ai z1<|e2
  repeat (first | refine st ?_ | refine cC fname ?_)
  exact aR
 cases e1:zaC c.name
 ·rw [zb7 (show chk c=(1, -1) by unfold chk; rw [if_neg hl,if_pos (.inr e1)])]
  have F:=ai chAV.eq_1<|ai k1<|ai k2<|ai k3<|ai z1<|ai e2<|e1
  repeat (first | refine st ?_ | refine cC fname ?_)
  exact aR
 have hne: ¬(c.states=[]\/zaC c.name=false):=by
  rw [e1]
  simpa using e2
 have hc1:chk c=(match zaJ (zfe c) c.vars.length with
  | some i=>(1,2000+(i:Int))
  | none=>match zaJ (zgl c) c.states.length with
    | some i=>(1,(i:Int))
    | none=>if topB c=false then(1, -1) else match zaJ (zi7 c) c.trans.length with
      | some i=>(1,1000+(i:Int))
      | none=>(0, -1)):=by
  unfold chk
  rw [if_neg hl,if_neg hne]
  rfl
 have F:=ai chAV.eq_1<|ai k1<|ai k2<|ai k3<|ai z1<|ai e2<|e1
 repeat (first | refine st ?_ | refine cC fname ?_)
 refine zac (D:=Nat) (fun i vs=>[(1, .loc 1 (vs 1) 0 0),(4,I i)]) (fun _ _=>[(1,⟨5,[chAV c],26,false⟩)]) (fun i _ _=>i<=c.vars.length/\ ∀j,j<i->zfe c j=true) (fun i=>c.vars.length-i) 0 ?_ ?_ ?_ ?_
 ·exact⟨Nat.zero_le _,fun j hj=>by omega⟩
 ·(simp only [go_sem,F])
 ·have F:=chAV.eq_1
  (simp only [go_sem,F])
 rintro i ws esc ⟨hi,hall⟩
 by_cases hlt:i<c.vars.length
 ·obtain⟨v,hv,_⟩:=zap hlt
  have q1:=nlt hlt
  have q2:=zab hlt (by omega)
  have hcon:=zqH env c (by omega) i v hv
  cases e:varB c i v
  ·have q3:IntKind.i64.wrap (2000+(i:Int))=2000+(i:Int):=zbQ (by omega) (by omega)
   rw [zb7 (show chk c=(1,2000+(i:Int)) by rw [hc1,zbG hlt hall (by rw [zfd hv]; exact e)])]
   have F:=ai chAV.eq_1<|ai q1<|ai q2<|ai q3<|e
   repeat (first | refine st ?_ | refine cC hcon ?_)
   exact aR
  ·have F:=ai chAV.eq_1<|ai q1<|ai q2<|e
   repeat (first | refine st ?_ | refine cC hcon ?_)
   refine⟨i+1,⟨hlt,zcX hall (by rw [zfd hv]; exact e)⟩, ?_, ?_, ?_⟩
   ·(simp only [go_sem,F])
   ·have F:=chAV.eq_1
    (simp only [go_sem,F])
   ·omega
 have q1: ¬(i:Int)< (c.vars.length:Int):=by omega
 have hvn:zaJ (zfe c) c.vars.length=none:=zaI fun j hj=>hall j (by omega)
 rw [hvn] at hc1
 have F:=ai chAV.eq_1<|q1
 repeat refine st ?_
 refine zac (D:=Nat) (fun i vs=>[(1, .loc 1 (vs 1) 0 0),(5,I i)]) (fun _ _=>[(1,⟨5,[chAV c],26,false⟩)]) (fun i _ _=>i<=c.states.length/\ ∀j,j<i->zgl c j=true) (fun i=>c.states.length-i) 0 ?_ ?_ ?_ ?_
 ·exact⟨Nat.zero_le _,fun j hj=>by omega⟩
 ·(simp only [go_sem,F])
 ·have F:=chAV.eq_1
  (simp only [go_sem,F])
 try clear ws esc hi hall q1 hlt i
 rintro i ws esc ⟨hi,hall⟩
 by_cases hlt:i<c.states.length
 ·obtain⟨s,hs,_⟩:=zap hlt
  have q1:=nlt hlt
  have q2:=zab hlt (by omega)
  have hcon:=znd env c (by omega) i s hs
  cases e:zay c i s
  ·rw [zb7 (show chk c=(1,(i:Int)) by rw [hc1,zbG hlt hall (by rw [zgx hs]; exact e)])]
   have F:=ai chAV.eq_1<|ai q1<|ai q2<|e
   repeat (first | refine st ?_ | refine cC hcon ?_)
   exact aR
  ·have F:=ai chAV.eq_1<|ai q1<|ai q2<|e
   repeat (first | refine st ?_ | refine cC hcon ?_)
   refine⟨i+1,⟨hlt,zcX hall (by rw [zgx hs]; exact e)⟩, ?_, ?_, ?_⟩
   ·(simp only [go_sem,F])
   ·have F:=chAV.eq_1
    (simp only [go_sem,F])
   ·omega
 have q1: ¬(i:Int)< (c.states.length:Int):=by omega
 have hsn:zaJ (zgl c) c.states.length=none:=zaI fun j hj=>hall j (by omega)
 rw [hsn] at hc1
 by_cases p1:c.initial<0
 ·have ht:topB c=false:=by unfold topB at_; rw [if_neg (by omega)]
  rw [zb7 (show chk c=(1, -1) by rw [hc1,if_pos ht])]
  have F:=ai chAV.eq_1<|ai q1<|p1
  repeat refine st ?_
  exact aR
 obtain⟨m,hm⟩:=zeq (show 0<=c.initial by omega)
 have p1': ¬(m:Int)<0:=by omega
 by_cases p2:(c.states.length:Int)<=(m:Int)
 ·have ht:topB c=false:=by unfold topB; rw [hm,zce,List.getElem?_eq_none (by omega)]
  rw [zb7 (show chk c=(1, -1) by rw [hc1,if_pos ht])]
  have F:=ai chAV.eq_1<|ai q1<|ai hm<|ai p1'<|p2
  repeat refine st ?_
  exact aR
 have p3:=nlt (show m<c.states.length by omega)
 obtain⟨q,hq,_⟩:=zap (show m<c.states.length by omega)
 have fnorm:=zde env q
 have htop:topB c=((q.parent == -1)&&zcq q):=by unfold topB; rw [hm,zce,hq]
 cases e3:(q.parent == -1)
 ·rw [zb7 (show chk c=(1, -1) by rw [hc1,if_pos (by rw [htop,e3]; rfl)])]
  have F:=ai chAV.eq_1<|ai stAV.eq_1<|ai q1<|ai hm<|ai p1'<|ai p2<|ai p3<|ai hq<|ai e3<|bneA
  repeat (first | refine st ?_ | refine cC fnorm ?_)
  exact aR
 cases e4:zcq q
 ·rw [zb7 (show chk c=(1, -1) by rw [hc1,if_pos (by rw [htop,e3,e4]; rfl)])]
  have F:=ai chAV.eq_1<|ai stAV.eq_1<|ai q1<|ai hm<|ai p1'<|ai p2<|ai p3<|ai hq<|ai e3<|ai e4<|bneA
  repeat (first | refine st ?_ | refine cC fnorm ?_)
  exact aR
 rw [if_neg (by rw [htop,e3,e4]; simp)] at hc1
 have F:=ai chAV.eq_1<|ai stAV.eq_1<|ai q1<|ai hm<|ai p1'<|ai p2<|ai p3<|ai hq<|ai e3<|ai e4<|bneA
 repeat (first | refine st ?_ | refine cC fnorm ?_)
 refine zac (D:=Nat) (fun i vs=>[(1, .loc 1 (vs 1) 0 0),(6,I i)]) (fun _ _=>[(1,⟨5,[chAV c],26,false⟩)]) (fun i _ _=>i<=c.trans.length/\ ∀j,j<i->zi7 c j=true) (fun i=>c.trans.length-i) 0 ?_ ?_ ?_ ?_
 ·exact⟨Nat.zero_le _,fun j hj=>by omega⟩
 ·have F:=ai chAV.eq_1<|hm
  (simp only [go_sem,F])
 ·have F:=ai chAV.eq_1<|hm
  (simp only [go_sem,F])
 try clear ws esc hi hall q1 hlt i
 rintro i ws esc ⟨hi,hall⟩
 by_cases hlt:i<c.trans.length
 ·obtain⟨t,ht,_⟩:=zap hlt
  have q1:=nlt hlt
  have q2:=zab hlt (by omega)
  have hcon:=zoD env c t
  cases e:zcM c t
  ·have q3:IntKind.i64.wrap (1000+(i:Int))=1000+(i:Int):=zbQ (by omega) (by omega)
   rw [zb7 (show chk c=(1,1000+(i:Int)) by rw [hc1,zbG hlt hall (by rw [zgw ht]; exact e)])]
   have F:=ai chAV.eq_1<|ai trAV.eq_1<|ai q1<|ai q2<|ai q3<|ai ht<|e
   repeat (first | refine st ?_ | refine cC hcon ?_)
   exact aR
  ·have F:=ai chAV.eq_1<|ai trAV.eq_1<|ai q1<|ai q2<|ai ht<|e
   repeat (first | refine st ?_ | refine cC hcon ?_)
   refine⟨i+1,⟨hlt,zcX hall (by rw [zgw ht]; exact e)⟩, ?_, ?_, ?_⟩
   ·(simp only [go_sem,F])
   ·have F:=chAV.eq_1
    (simp only [go_sem,F])
   ·omega
 have q1: ¬(i:Int)< (c.trans.length:Int):=by omega
 rw [zb7 (show chk c=(0, -1) by rw [hc1,zaI fun j hj=>hall j (by omega)])]
 have F:=ai chAV.eq_1<|q1
 repeat refine st ?_
 exact aR
end
section
theorem zld (env:Env) (c:ChD) (i:Int):Con Tryz.prog env 151 [.agg (chAV c),I i] (B (inZ c i)):=by
 unfold inZ
 by_cases h0:0<=i
 ·by_cases h1:i< (c.states.length:Int)
  ·refine zaa Tryz.func151 rfl Tryz.call151 (by rw [Tryz.ntmps151]; simp) ?_
   rw [Tryz.ntmps151,Tryz.results151]
   have F:=ai chAV.eq_1<|ai h0<|h1
   repeat refine st ?_
   exact aR
  ·refine zaa Tryz.func151 rfl Tryz.call151 (by rw [Tryz.ntmps151]; simp) ?_
   rw [Tryz.ntmps151,Tryz.results151]
   have F:=ai chAV.eq_1<|ai h0<|h1
   repeat refine st ?_
   exact aR
 ·refine zaa Tryz.func151 rfl Tryz.call151 (by rw [Tryz.ntmps151]; simp) ?_
  rw [Tryz.ntmps151,Tryz.results151]
  have F:=ai chAV.eq_1<|h0
  repeat refine st ?_
  exact aR
theorem zcr {c:ChD} (h:Right c) (i:Int) (real:Bool):(kidsL c i real).length<=32:=by
 have h1:=zbd c i real c.states.length
 have h2:=h.few
 have h1:(kidsL c i real).length<=c.states.length:=h1
 omega
end
section
theorem zew (env:Env) (c:ChD):Con Tryz.prog env 140 [zaU c] (zaw c):=by
 refine zaa Tryz.func140 rfl Tryz.call140 (by rw [Tryz.ntmps140]; simp) ?_
 rw [Tryz.ntmps140,Tryz.results140]
 have F:=ai zaU.eq_1<|ai zaF.eq_1<|zaw.eq_1
 repeat refine st ?_
 exact aR
theorem zca (env:Env) (c:ChD) (hs:Small c):Con Tryz.prog env 64 [zaU c] (.agg (chAV c)):=by
 have f0:=zjI env c hs
 unfold chAV at f0
 refine zaa Tryz.func64 rfl Tryz.call64 (by rw [Tryz.ntmps64]; simp) ?_
 rw [Tryz.ntmps64,Tryz.results64]
 have F:=ai zaU.eq_1<|zaF.eq_1
 repeat (first | refine st ?_ | refine cC f0 ?_)
 (refine zah ?_; show (zaG _ _ _).run _=some _; simp only [go_sem,F])
 rfl
theorem zoe (env:Env) (c:ChD) (i:Int):Con Tryz.prog env 169 [zaU c,I i] (B (inZ c i)):=by
 unfold inZ
 by_cases h0:0<=i
 ·by_cases h1:i< (c.states.length:Int)
  ·refine zaa Tryz.func169 rfl Tryz.call169 (by rw [Tryz.ntmps169]; simp) ?_
   rw [Tryz.ntmps169,Tryz.results169]
   have F:=ai zaU.eq_1<|ai zaF.eq_1<|ai h0<|h1
   repeat refine st ?_
   exact aR
  ·refine zaa Tryz.func169 rfl Tryz.call169 (by rw [Tryz.ntmps169]; simp) ?_
   rw [Tryz.ntmps169,Tryz.results169]
   have F:=ai zaU.eq_1<|ai zaF.eq_1<|ai h0<|h1
   repeat refine st ?_
   exact aR
 ·refine zaa Tryz.func169 rfl Tryz.call169 (by rw [Tryz.ntmps169]; simp) ?_
  rw [Tryz.ntmps169,Tryz.results169]
  have F:=ai zaU.eq_1<|ai zaF.eq_1<|h0
  repeat refine st ?_
  exact aR
theorem zb0 (env:Env) (c:ChD) (h:Full c) (i:Int):Con Tryz.prog env 175 [zaU c,I i] (.own 3 1 ((if i= -1\/inZ c i=true then kidsL c i true else []).map zaj)):=by
 have hlen:=h.few
 have f0:=zoe env c i
 have f1:=zdO env c i (by omega)
 unfold chAV at f1
 unfold zaU zaF at f0 |-
 by_cases e:i= -1
 ·subst e
  have hz:inZ c (-1)=false:=by unfold inZ; simp
  rw [hz] at f0
  rw [if_pos (.inl rfl)]
  refine zaa Tryz.func175 rfl Tryz.call175 (by rw [Tryz.ntmps175]; simp) ?_
  rw [Tryz.ntmps175,Tryz.results175]
  repeat (first | refine st0 ?_ | refine cC0 f0 ?_ | refine cC0 f1 ?_)
  exact aR0
 ·have e1:(i != -1)=true:=by simpa using e
  cases hz:inZ c i with
  | false=>
    rw [hz] at f0
    rw [if_neg (by simp [e])]
    refine zaK Tryz.func175 rfl Tryz.call175 (by rw [Tryz.ntmps175]; simp) ?_
    rw [Tryz.ntmps175,Tryz.results175]
    have F:=e1
    repeat (first | refine st ?_ | refine cC f0 ?_ | refine cC f1 ?_)
    (refine zah ?_; refine⟨_,(by show (zaG _ _ _).run _=some _; simp only [go_sem,F]; rfl), ?_⟩)
    exact RStr.own_nil _ _ (by decide)
  | true=>
    rw [hz] at f0
    rw [if_pos (.inr rfl)]
    refine zaa Tryz.func175 rfl Tryz.call175 (by rw [Tryz.ntmps175]; simp) ?_
    rw [Tryz.ntmps175,Tryz.results175]
    have F:=e1
    repeat (first | refine st ?_ | refine cC f0 ?_ | refine cC f1 ?_)
    exact aR
end
section
theorem Str.seq {sz:Nat} {es' es:List (List AV)} (hl:es'.length=es.length) (hs: ∀(i:Nat) (e' e:List AV),es'[i]? =some e'->es[i]? =some e->Strs e' e):Str (.seq sz es') (.seq sz es):=fun S w v h=>by
 have cell: ∀ {i j:Nat} {c:AV},cellAt es i j=some c-> ∃c',cellAt es' i j=some c'/\Str c' c:=fun {i j c} hc=>by
  unfold cellAt at hc |-
  cases he:es[i]? with
  | none=>rw [he] at hc; cases hc
  | some e=>
    rw [he] at hc
    have hi:=(List.getElem?_eq_some_iff.1 he).1
    have he':es'[i]? =some es'[i]:=List.getElem?_eq_getElem (by omega)
    obtain⟨h1,h2⟩:=hs i _ e he' he
    have hj:=(List.getElem?_eq_some_iff.1 (show e[j]? =some c from hc)).1
    rw [he']
    exact⟨es'[i][j],List.getElem?_eq_getElem (by omega),h2 j _ c (List.getElem?_eq_getElem (by omega)) hc⟩
 cases h with
 | seq A n cap sz es' b o u hn hcap hA hz hc hr=>
   refine .seq A n cap sz es b o u (by omega) hcap hA (fun i e he=> ?_) (fun i j c h=> ?_) fun i j c h=> ?_
   ·have hi:=(List.getElem?_eq_some_iff.1 he).1
    have he':es'[i]? =some es'[i]:=List.getElem?_eq_getElem (by omega)
    rw [<-(hs i _ e he' he).1]
    exact hz i _ he'
   ·obtain⟨c',h1,_⟩:=cell h
    exact hc i j c' h1
   ·obtain⟨c',h1,h2⟩:=cell h
    exact h2 _ _ _ (hr i j c' h1)
theorem Strs.one {c' c:AV} (h:Str c' c):Strs [c'] [c]:= .cons h .nil
def Strss (es' es:List (List AV)):Prop:=es'.length=es.length/\ ∀(i:Nat) (e' e:List AV),es'[i]? =some e'->es[i]? =some e->Strs e' e
theorem Strss.nil:Strss [] []:=⟨rfl,fun i c' c h _=>by simp at h⟩
theorem Strss.cons {e' e:List AV} {es' es:List (List AV)} (h:Strs e' e) (hs:Strss es' es):Strss (e'::es') (e::es):=⟨by simp [hs.1],fun i a b ha hb=>by
 cases i with
 | zero=>
   simp only [List.getElem?_cons_zero,Option.some.injEq] at ha hb
   subst ha hb
   exact h
 | succ i=>exact hs.2 i a b (by simpa using ha) (by simpa using hb)⟩
end
section
def zlp (c:ChD):Bool:=decide ((c.states.length:Int)<=40)&&decide ((c.trans.length:Int)<=70)&&decide ((c.vars.length:Int)<=10)
theorem zne (env:Env) (c:ChD):Con Tryz.prog env 12 [.agg (chAV c)] (B ((chk c).1==0)):=by
 have f0:=znf env c
 unfold chkT at f0
 refine zaa Tryz.func12 rfl Tryz.call12 (by rw [Tryz.ntmps12]; simp) ?_
 rw [Tryz.ntmps12,Tryz.results12]
 repeat (first | refine st0 ?_ | refine cC0 f0 ?_)
 exact aR0
def zny (c:ChD):Bool:=zlp c&&((chk c).1==0)
theorem zs7 {c:ChD} (h:(chk c).1=0):chk c=(0, -1):=by
 unfold chk at h |-
 split at h
 ·simp at h
 rename_i h1
 rw [if_neg h1]
 split at h
 ·simp at h
 rename_i h2
 rw [if_neg h2]
 split at h
 ·simp at h
 rename_i h3
 try simp only at h |-
 split at h
 ·simp at h
 rename_i h4
 try simp only at h |-
 split at h
 ·simp at h
 rename_i h5
 rw [if_neg h5]
 split at h
 ·simp at h
 ·rfl
theorem zpt {c:ChD} (h:zny c=true):Full c:=by
 unfold zny at h
 rw [Bool.and_eq_true,beq_iff_eq] at h
 exact full_of h.2
end
section
end

end Go.Proofs.YtnbjaghjdeicmaaGreatDoor