/- scriniumref24.State: by the walk without memory. -/
import Derived.Test.YtlmekdfleciejaaGreatDoorD30
import Derived.Test.YtlmekdfleciejaaGreatDoorD5
import Derived.Test.YtlmekdfleciejaaGreatDoorD7
set_option maxRecDepth 100000
set_option maxHeartbeats 8000000
set_option linter.unusedSimpArgs false
namespace Go.Proofs.YtlmekdfleciejaaGreatDoor
open Go.RowKit
section
theorem zqp {α:Type} [DecidableEq α] (l:List α):(0< (l.length:Int))=((l == [])=false):=by
 rw [eq_iff_iff]
 cases l<;>simp
theorem zhK (env:Env) (c:ChD) (hn:c.states.length<=1000000) (i:Nat) (s:StD) (hs:c.states[i]? =some s) (hp:s.parent= -1):Con Tryz.prog env 94 [.agg (chAV c),I i] (B (zap c i s)):=by
 have hi:i<c.states.length:=(List.getElem?_eq_some_iff.1 hs).1
 have k0:=nlt hi
 have f1:=zb7 env s.name
 have f2:=ziA env c s.name hn
 have f3:=zdg env c s.inn
 have f4:=zdg env c s.out
 have f5:=zbw env c (i:Int) true hn
 have f6:=zbw env c (i:Int) false hn
 have f7:=za1 env s
 have hlen:(kidsL c i true).length<=1000000:=by
  have:=zaX c i true c.states.length
  unfold kidsL
  omega
 have f8:=zhM env (kidsL c i true) s.initial hlen
 have f9:=zfd env c (kidsL c i true) hlen (fun k hk=>(zep hk).1)
 have z1:=zbK (kidsL c i true)
 have z2:=zqp (kidsL c i false)
 have z3:=zbK s.out
 have z4:=zbK s.inn
 refine zaa Tryz.func94 rfl Tryz.call94 (by rw [Tryz.ntmps94]; simp) ?_
 rw [Tryz.ntmps94,Tryz.results94]
 cases e1:zaA s.name
 ·rw [show zap c i s=false by unfold zap; rw [e1]; rfl]
  have F:=ai chAV.eq_1<|ai stAV.eq_1<|ai k0<|ai hs<|ai bneA<|e1
  repeat (first | refine st ?_ | refine cC f1 ?_)
  exact aR
 cases e2:(zgP c s.name==(i:Int))
 ·rw [show zap c i s=false by unfold zap; rw [e2]; simp]
  have F:=ai chAV.eq_1<|ai stAV.eq_1<|ai k0<|ai hs<|ai bneA<|ai e1<|e2
  repeat (first | refine st ?_ | refine cC f1 ?_ | refine cC f2 ?_)
  exact aR
 cases e3:zbE c.vars.length c.states.length s.inn
 ·rw [show zap c i s=false by unfold zap; rw [e3]; simp]
  have F:=ai chAV.eq_1<|ai stAV.eq_1<|ai k0<|ai hs<|ai bneA<|ai e1<|ai e2<|e3
  repeat (first | refine st ?_ | refine cC f1 ?_ | refine cC f2 ?_ | refine cC f3 ?_)
  exact aR
 cases e4:zbE c.vars.length c.states.length s.out
 ·rw [show zap c i s=false by unfold zap; rw [e4]; simp]
  have F:=ai chAV.eq_1<|ai stAV.eq_1<|ai k0<|ai hs<|ai bneA<|ai e1<|ai e2<|ai e3<|e4
  repeat (first | refine st ?_ | refine cC f1 ?_ | refine cC f2 ?_ | refine cC f3 ?_ | refine cC f4 ?_)
  exact aR
 have hpar:zaC c i s=true:=by unfold zaC; rw [hp]; rfl
 have hu:zaB c s=false:=by unfold zaB at_; rw [hp]; rfl
 have hpp:((s.parent == -1)||zaB c s)=true:=by rw [hp]; rfl
 have fu:=zgU env c s (by omega)
 have hst:zap c i s=zan c i s:=by unfold zap; rw [e1,e2,e3,e4,hpar]; simp
 rw [hst]
 by_cases hk1:s.kind=1
 ·cases e5:(kidsL c i true == [])
  ·rw [show zan c i s=inL (kidsL c i true) s.initial by unfold zan; rw [if_pos hk1,if_neg (by simpa using e5)]]
   have F:=ai chAV.eq_1<|ai stAV.eq_1<|ai k0<|ai hs<|ai bneA<|ai e1<|ai e2<|ai e3<|ai e4<|ai hp<|ai hk1<|ai z1<|e5
   repeat (first | refine st ?_ | refine cC f1 ?_ | refine cC f2 ?_ | refine cC f3 ?_ | refine cC f4 ?_ | refine cC f5 ?_ | refine cC f8 ?_)
   exact aR
  ·rw [show zan c i s=(s.initial == -1) by unfold zan; rw [if_pos hk1,if_pos (by simpa using e5)]]
   have F:=ai chAV.eq_1<|ai stAV.eq_1<|ai k0<|ai hs<|ai bneA<|ai e1<|ai e2<|ai e3<|ai e4<|ai hp<|ai hk1<|ai z1<|e5
   repeat (first | refine st ?_ | refine cC f1 ?_ | refine cC f2 ?_ | refine cC f3 ?_ | refine cC f4 ?_ | refine cC f5 ?_ | refine cC f8 ?_)
   exact aR
 have b1:=za3 hk1
 by_cases hk2:s.kind=2
 ·have hr:zan c i s=(((kidsL c i true).all fun k=>zar c k)&&decide (0< (kidsL c i true).length)&&(s.initial == -1)):=by unfold zan; rw [if_neg hk1,if_pos hk2]
  rw [hr]
  cases e5:(s.initial == -1)
  ·rw [Bool.and_false]
   have F:=ai chAV.eq_1<|ai stAV.eq_1<|ai k0<|ai hs<|ai bneA<|ai e1<|ai e2<|ai e3<|ai e4<|ai hp<|ai hk2<|e5
   repeat (first | refine st ?_ | refine cC f1 ?_ | refine cC f2 ?_ | refine cC f3 ?_ | refine cC f4 ?_ | refine cC f5 ?_ | refine cC f9 ?_)
   exact aR
  ·rw [Bool.and_true]
   have F:=ai chAV.eq_1<|ai stAV.eq_1<|ai k0<|ai hs<|ai bneA<|ai e1<|ai e2<|ai e3<|ai e4<|ai hp<|ai hk2<|e5
   repeat (first | refine st ?_ | refine cC f1 ?_ | refine cC f2 ?_ | refine cC f3 ?_ | refine cC f4 ?_ | refine cC f5 ?_ | refine cC f9 ?_)
   exact aR
 have b2:=za3 hk2
 cases e5:(kidsL c i false == [])
 ·rw [show zan c i s=false by unfold zan; rw [if_neg hk1,if_neg hk2,e5]; simp]
  have F:=ai chAV.eq_1<|ai stAV.eq_1<|ai k0<|ai hs<|ai bneA<|ai e1<|ai e2<|ai e3<|ai e4<|ai hp<|ai b1<|ai b2<|ai z2<|e5
  repeat (first | refine st ?_ | refine cC f1 ?_ | refine cC f2 ?_ | refine cC f3 ?_ | refine cC f4 ?_ | refine cC f5 ?_ | refine cC f6 ?_)
  exact aR
 by_cases hk3:s.kind=3
 ·have hr:zan c i s=((kidsL c i false == [])&&((s.parent == -1)||zaB c s)&&(s.initial == -1)&&(s.out == [])):=by unfold zan; rw [if_neg hk1,if_neg hk2,if_pos hk3]
  rw [hr,e5,hpp]
  cases e6:(s.initial == -1)
  ·rw [Bool.and_false,Bool.false_and]
   have F:=ai chAV.eq_1<|ai stAV.eq_1<|ai k0<|ai hs<|ai bneA<|ai e1<|ai e2<|ai e3<|ai e4<|ai hp<|ai hk3<|ai z2<|ai e5<|e6
   repeat (first | refine st ?_ | refine cC f1 ?_ | refine cC f2 ?_ | refine cC f3 ?_ | refine cC f4 ?_ | refine cC f5 ?_ | refine cC f6 ?_ | refine cC fu ?_)
   exact aR
  cases e7:(s.out == [])
  ·rw [Bool.and_false]
   have F:=ai chAV.eq_1<|ai stAV.eq_1<|ai k0<|ai hs<|ai bneA<|ai e1<|ai e2<|ai e3<|ai e4<|ai hp<|ai hk3<|ai z2<|ai z3<|ai e5<|ai e6<|e7
   repeat (first | refine st ?_ | refine cC f1 ?_ | refine cC f2 ?_ | refine cC f3 ?_ | refine cC f4 ?_ | refine cC f5 ?_ | refine cC f6 ?_ | refine cC fu ?_)
   exact aR
  have F:=ai chAV.eq_1<|ai stAV.eq_1<|ai k0<|ai hs<|ai bneA<|ai e1<|ai e2<|ai e3<|ai e4<|ai hp<|ai hk3<|ai z2<|ai z3<|ai e5<|ai e6<|e7
  repeat (first | refine st ?_ | refine cC f1 ?_ | refine cC f2 ?_ | refine cC f3 ?_ | refine cC f4 ?_ | refine cC f5 ?_ | refine cC f6 ?_ | refine cC fu ?_)
  exact aR
 have b3:=za3 hk3
 by_cases hk45:s.kind=4\/s.kind=5
 ·have hr:zan c i s=((kidsL c i false == [])&&zaB c s&&inL (kidsL c s.parent true) s.initial&&(s.inn == [])&&(s.out == [])):=by unfold zan; rw [if_neg hk1,if_neg hk2,if_neg hk3,if_pos hk45]
  have e6:zat s=true:=by unfold zat; simpa using hk45
  rw [hr,e5,Bool.true_and]
  rw [hu,Bool.false_and,Bool.false_and,Bool.false_and]
  have F:=ai chAV.eq_1<|ai stAV.eq_1<|ai k0<|ai hs<|ai bneA<|ai e1<|ai e2<|ai e3<|ai e4<|ai hp<|ai b1<|ai b2<|ai b3<|ai z2<|ai e5<|ai e6<|hu
  repeat (first | refine st ?_ | refine cC f1 ?_ | refine cC f2 ?_ | refine cC f3 ?_ | refine cC f4 ?_ | refine cC f5 ?_ | refine cC f6 ?_ | refine cC f7 ?_ | refine cC fu ?_)
  exact aR
 have e6:zat s=false:=by unfold zat; simpa using hk45
 rw [show zan c i s=false by unfold zan; rw [if_neg hk1,if_neg hk2,if_neg hk3,if_neg hk45]]
 have F:=ai chAV.eq_1<|ai stAV.eq_1<|ai k0<|ai hs<|ai bneA<|ai e1<|ai e2<|ai e3<|ai e4<|ai hp<|ai b1<|ai b2<|ai b3<|ai z2<|ai e5<|e6
 repeat (first | refine st ?_ | refine cC f1 ?_ | refine cC f2 ?_ | refine cC f3 ?_ | refine cC f4 ?_ | refine cC f5 ?_ | refine cC f6 ?_ | refine cC f7 ?_)
 exact aR
end
section
theorem zpb {α:Type} [DecidableEq α] (l:List α):(0< (l.length:Int))=((l == [])=false):=by
 rw [eq_iff_iff]
 cases l<;>simp
theorem zix (env:Env) (c:ChD) (hn:c.states.length<=1000000) (i:Nat) (s:StD) (hs:c.states[i]? =some s) (hp: ¬s.parent= -1):Con Tryz.prog env 94 [.agg (chAV c),I i] (B (zap c i s)):=by
 have hi:i<c.states.length:=(List.getElem?_eq_some_iff.1 hs).1
 have k0:=nlt hi
 have f1:=zb7 env s.name
 have f2:=ziA env c s.name hn
 have f3:=zdg env c s.inn
 have f4:=zdg env c s.out
 have f5:=zbw env c (i:Int) true hn
 have f6:=zbw env c (i:Int) false hn
 have f7:=za1 env s
 have hlen:(kidsL c i true).length<=1000000:=by
  have:=zaX c i true c.states.length
  unfold kidsL
  omega
 have f8:=zhM env (kidsL c i true) s.initial hlen
 have f9:=zfd env c (kidsL c i true) hlen (fun k hk=>(zep hk).1)
 have z1:=zbK (kidsL c i true)
 have z2:=zpb (kidsL c i false)
 have z3:=zbK s.out
 have z4:=zbK s.inn
 refine zaa Tryz.func94 rfl Tryz.call94 (by rw [Tryz.ntmps94]; simp) ?_
 rw [Tryz.ntmps94,Tryz.results94]
 cases e1:zaA s.name
 ·rw [show zap c i s=false by unfold zap; rw [e1]; rfl]
  have F:=ai chAV.eq_1<|ai stAV.eq_1<|ai k0<|ai hs<|ai bneA<|e1
  repeat (first | refine st ?_ | refine cC f1 ?_)
  exact aR
 cases e2:(zgP c s.name==(i:Int))
 ·rw [show zap c i s=false by unfold zap; rw [e2]; simp]
  have F:=ai chAV.eq_1<|ai stAV.eq_1<|ai k0<|ai hs<|ai bneA<|ai e1<|e2
  repeat (first | refine st ?_ | refine cC f1 ?_ | refine cC f2 ?_)
  exact aR
 cases e3:zbE c.vars.length c.states.length s.inn
 ·rw [show zap c i s=false by unfold zap; rw [e3]; simp]
  have F:=ai chAV.eq_1<|ai stAV.eq_1<|ai k0<|ai hs<|ai bneA<|ai e1<|ai e2<|e3
  repeat (first | refine st ?_ | refine cC f1 ?_ | refine cC f2 ?_ | refine cC f3 ?_)
  exact aR
 cases e4:zbE c.vars.length c.states.length s.out
 ·rw [show zap c i s=false by unfold zap; rw [e4]; simp]
  have F:=ai chAV.eq_1<|ai stAV.eq_1<|ai k0<|ai hs<|ai bneA<|ai e1<|ai e2<|ai e3<|e4
  repeat (first | refine st ?_ | refine cC f1 ?_ | refine cC f2 ?_ | refine cC f3 ?_ | refine cC f4 ?_)
  exact aR
 have b0:=za3 hp
 by_cases p1:s.parent<0
 ·rw [show zap c i s=false by unfold zap zaC; rw [b0,decide_eq_false (show ¬0<=s.parent by omega)]; simp]
  have F:=ai chAV.eq_1<|ai stAV.eq_1<|ai k0<|ai hs<|ai bneA<|ai e1<|ai e2<|ai e3<|ai e4<|ai b0<|p1
  repeat (first | refine st ?_ | refine cC f1 ?_ | refine cC f2 ?_ | refine cC f3 ?_ | refine cC f4 ?_)
  exact aR
 obtain⟨m,hm⟩:=zdU (show 0<=s.parent by omega)
 have p1: ¬(m:Int)<0:=by omega
 have b0:((m:Int) == -1)=false:=za3 (by omega)
 by_cases p2:(i:Int)<=(m:Int)
 ·rw [show zap c i s=false by unfold zap zaC; rw [hm,b0,decide_eq_false (show ¬(m:Int)<i by omega)]; simp]
  have F:=ai chAV.eq_1<|ai stAV.eq_1<|ai k0<|ai hs<|ai bneA<|ai e1<|ai e2<|ai e3<|ai e4<|ai hm<|ai b0<|ai p1<|p2
  repeat (first | refine st ?_ | refine cC f1 ?_ | refine cC f2 ?_ | refine cC f3 ?_ | refine cC f4 ?_)
  exact aR
 obtain⟨q,hq,_⟩:=zam (show m<c.states.length by omega)
 have p3:=nlt (show m<c.states.length by omega)
 have fn:=zcQ env q
 have hnq:zar c (m:Int)=zbV q:=by unfold zar; rw [zbp,hq]
 cases p4:zbV q
 ·rw [show zap c i s=false by unfold zap zaC; rw [hm,b0,hnq,p4]; simp]
  have F:=ai chAV.eq_1<|ai stAV.eq_1<|ai k0<|ai hs<|ai bneA<|ai e1<|ai e2<|ai e3<|ai e4<|ai hm<|ai b0<|ai p1<|ai p2<|ai p3<|ai p4<|hq
  repeat (first | refine st ?_ | refine cC f1 ?_ | refine cC f2 ?_ | refine cC f3 ?_ | refine cC f4 ?_ | refine cC fn ?_)
  exact aR
 have hpar:zaC c i s=true:=by unfold zaC; rw [hm,b0,hnq,p4]; simp; omega
 have hpp:((s.parent == -1)||zaB c s)=(false||zaB c s):=by rw [hm,b0]
 have fu:=zgU env c s (by omega)
 have g5:=zbw env c (m:Int) true hn
 have hlen2:(kidsL c m true).length<=1000000:=by
  have:=zaX c m true c.states.length
  unfold kidsL
  omega
 have g8:=zhM env (kidsL c m true) s.initial hlen2
 have hst:zap c i s=zan c i s:=by unfold zap; rw [e1,e2,e3,e4,hpar]; simp
 rw [hst]
 by_cases hk1:s.kind=1
 ·cases e5:(kidsL c i true == [])
  ·rw [show zan c i s=inL (kidsL c i true) s.initial by unfold zan; rw [if_pos hk1,if_neg (by simpa using e5)]]
   have F:=ai chAV.eq_1<|ai stAV.eq_1<|ai k0<|ai hs<|ai bneA<|ai e1<|ai e2<|ai e3<|ai e4<|ai hm<|ai b0<|ai p1<|ai p2<|ai p3<|ai p4<|ai hq<|ai hk1<|ai z1<|e5
   repeat (first | refine st ?_ | refine cC f1 ?_ | refine cC f2 ?_ | refine cC f3 ?_ | refine cC f4 ?_ | refine cC fn ?_ | refine cC f5 ?_ | refine cC f8 ?_)
   exact aR
  ·rw [show zan c i s=(s.initial == -1) by unfold zan; rw [if_pos hk1,if_pos (by simpa using e5)]]
   have F:=ai chAV.eq_1<|ai stAV.eq_1<|ai k0<|ai hs<|ai bneA<|ai e1<|ai e2<|ai e3<|ai e4<|ai hm<|ai b0<|ai p1<|ai p2<|ai p3<|ai p4<|ai hq<|ai hk1<|ai z1<|e5
   repeat (first | refine st ?_ | refine cC f1 ?_ | refine cC f2 ?_ | refine cC f3 ?_ | refine cC f4 ?_ | refine cC fn ?_ | refine cC f5 ?_ | refine cC f8 ?_)
   exact aR
 have b1:=za3 hk1
 by_cases hk2:s.kind=2
 ·have hr:zan c i s=(((kidsL c i true).all fun k=>zar c k)&&decide (0< (kidsL c i true).length)&&(s.initial == -1)):=by unfold zan; rw [if_neg hk1,if_pos hk2]
  rw [hr]
  cases e5:(s.initial == -1)
  ·rw [Bool.and_false]
   have F:=ai chAV.eq_1<|ai stAV.eq_1<|ai k0<|ai hs<|ai bneA<|ai e1<|ai e2<|ai e3<|ai e4<|ai hm<|ai b0<|ai p1<|ai p2<|ai p3<|ai p4<|ai hq<|ai hk2<|e5
   repeat (first | refine st ?_ | refine cC f1 ?_ | refine cC f2 ?_ | refine cC f3 ?_ | refine cC f4 ?_ | refine cC fn ?_ | refine cC f5 ?_ | refine cC f9 ?_)
   exact aR
  ·rw [Bool.and_true]
   have F:=ai chAV.eq_1<|ai stAV.eq_1<|ai k0<|ai hs<|ai bneA<|ai e1<|ai e2<|ai e3<|ai e4<|ai hm<|ai b0<|ai p1<|ai p2<|ai p3<|ai p4<|ai hq<|ai hk2<|e5
   repeat (first | refine st ?_ | refine cC f1 ?_ | refine cC f2 ?_ | refine cC f3 ?_ | refine cC f4 ?_ | refine cC fn ?_ | refine cC f5 ?_ | refine cC f9 ?_)
   exact aR
 have b2:=za3 hk2
 cases e5:(kidsL c i false == [])
 ·rw [show zan c i s=false by unfold zan; rw [if_neg hk1,if_neg hk2,e5]; simp]
  have F:=ai chAV.eq_1<|ai stAV.eq_1<|ai k0<|ai hs<|ai bneA<|ai e1<|ai e2<|ai e3<|ai e4<|ai hm<|ai b0<|ai p1<|ai p2<|ai p3<|ai p4<|ai hq<|ai b1<|ai b2<|ai z2<|e5
  repeat (first | refine st ?_ | refine cC f1 ?_ | refine cC f2 ?_ | refine cC f3 ?_ | refine cC f4 ?_ | refine cC fn ?_ | refine cC f5 ?_ | refine cC f6 ?_)
  exact aR
 by_cases hk3:s.kind=3
 ·have hr:zan c i s=((kidsL c i false == [])&&((s.parent == -1)||zaB c s)&&(s.initial == -1)&&(s.out == [])):=by unfold zan; rw [if_neg hk1,if_neg hk2,if_pos hk3]
  rw [hr,e5,hpp]
  cases e6:(s.initial == -1)
  ·rw [Bool.and_false,Bool.false_and]
   have F:=ai chAV.eq_1<|ai stAV.eq_1<|ai k0<|ai hs<|ai bneA<|ai e1<|ai e2<|ai e3<|ai e4<|ai hm<|ai b0<|ai p1<|ai p2<|ai p3<|ai p4<|ai hq<|ai hk3<|ai z2<|ai e5<|e6
   repeat (first | refine st ?_ | refine cC f1 ?_ | refine cC f2 ?_ | refine cC f3 ?_ | refine cC f4 ?_ | refine cC fn ?_ | refine cC f5 ?_ | refine cC f6 ?_ | refine cC fu ?_)
   exact aR
  cases e7:(s.out == [])
  ·rw [Bool.and_false]
   have F:=ai chAV.eq_1<|ai stAV.eq_1<|ai k0<|ai hs<|ai bneA<|ai e1<|ai e2<|ai e3<|ai e4<|ai hm<|ai b0<|ai p1<|ai p2<|ai p3<|ai p4<|ai hq<|ai hk3<|ai z2<|ai z3<|ai e5<|ai e6<|e7
   repeat (first | refine st ?_ | refine cC f1 ?_ | refine cC f2 ?_ | refine cC f3 ?_ | refine cC f4 ?_ | refine cC fn ?_ | refine cC f5 ?_ | refine cC f6 ?_ | refine cC fu ?_)
   exact aR
  rw [Bool.true_and,Bool.and_true,Bool.and_true,Bool.false_or]
  have F:=ai chAV.eq_1<|ai stAV.eq_1<|ai k0<|ai hs<|ai bneA<|ai e1<|ai e2<|ai e3<|ai e4<|ai hm<|ai b0<|ai p1<|ai p2<|ai p3<|ai p4<|ai hq<|ai hk3<|ai z2<|ai z3<|ai e5<|ai e6<|e7
  repeat (first | refine st ?_ | refine cC f1 ?_ | refine cC f2 ?_ | refine cC f3 ?_ | refine cC f4 ?_ | refine cC fn ?_ | refine cC f5 ?_ | refine cC f6 ?_ | refine cC fu ?_)
  exact aR
 have b3:=za3 hk3
 by_cases hk45:s.kind=4\/s.kind=5
 ·have hr:zan c i s=((kidsL c i false == [])&&zaB c s&&inL (kidsL c s.parent true) s.initial&&(s.inn == [])&&(s.out == [])):=by unfold zan; rw [if_neg hk1,if_neg hk2,if_neg hk3,if_pos hk45]
  have e6:zat s=true:=by unfold zat; simpa using hk45
  rw [hr,e5,Bool.true_and]
  cases e7:zaB c s
  ·rw [Bool.false_and,Bool.false_and,Bool.false_and]
   have F:=ai chAV.eq_1<|ai stAV.eq_1<|ai k0<|ai hs<|ai bneA<|ai e1<|ai e2<|ai e3<|ai e4<|ai hm<|ai b0<|ai p1<|ai p2<|ai p3<|ai p4<|ai hq<|ai b1<|ai b2<|ai b3<|ai z2<|ai e5<|ai e6<|e7
   repeat (first | refine st ?_ | refine cC f1 ?_ | refine cC f2 ?_ | refine cC f3 ?_ | refine cC f4 ?_ | refine cC fn ?_ | refine cC f5 ?_ | refine cC f6 ?_ | refine cC f7 ?_ | refine cC fu ?_)
   exact aR
  rw [hm,Bool.true_and]
  cases e8:inL (kidsL c m true) s.initial
  ·rw [Bool.false_and,Bool.false_and]
   have F:=ai chAV.eq_1<|ai stAV.eq_1<|ai k0<|ai hs<|ai bneA<|ai e1<|ai e2<|ai e3<|ai e4<|ai hm<|ai b0<|ai p1<|ai p2<|ai p3<|ai p4<|ai hq<|ai b1<|ai b2<|ai b3<|ai z2<|ai e5<|ai e6<|ai e7<|e8
   repeat (first | refine st ?_ | refine cC f1 ?_ | refine cC f2 ?_ | refine cC f3 ?_ | refine cC f4 ?_ | refine cC fn ?_ | refine cC f5 ?_ | refine cC f6 ?_ | refine cC f7 ?_ | refine cC fu ?_ | refine cC g5 ?_ | refine cC g8 ?_)
   exact aR
  cases e9:(s.inn == [])
  ·rw [Bool.and_false,Bool.false_and]
   have F:=ai chAV.eq_1<|ai stAV.eq_1<|ai k0<|ai hs<|ai bneA<|ai e1<|ai e2<|ai e3<|ai e4<|ai hm<|ai b0<|ai p1<|ai p2<|ai p3<|ai p4<|ai hq<|ai b1<|ai b2<|ai b3<|ai z2<|ai z4<|ai e5<|ai e6<|ai e7<|ai e8<|e9
   repeat (first | refine st ?_ | refine cC f1 ?_ | refine cC f2 ?_ | refine cC f3 ?_ | refine cC f4 ?_ | refine cC fn ?_ | refine cC f5 ?_ | refine cC f6 ?_ | refine cC f7 ?_ | refine cC fu ?_ | refine cC g5 ?_ | refine cC g8 ?_)
   exact aR
  rw [Bool.true_and,Bool.true_and]
  have F:=ai chAV.eq_1<|ai stAV.eq_1<|ai k0<|ai hs<|ai bneA<|ai e1<|ai e2<|ai e3<|ai e4<|ai hm<|ai b0<|ai p1<|ai p2<|ai p3<|ai p4<|ai hq<|ai b1<|ai b2<|ai b3<|ai z2<|ai z3<|ai z4<|ai e5<|ai e6<|ai e7<|ai e8<|e9
  repeat (first | refine st ?_ | refine cC f1 ?_ | refine cC f2 ?_ | refine cC f3 ?_ | refine cC f4 ?_ | refine cC fn ?_ | refine cC f5 ?_ | refine cC f6 ?_ | refine cC f7 ?_ | refine cC fu ?_ | refine cC g5 ?_ | refine cC g8 ?_)
  exact aR
 have e6:zat s=false:=by unfold zat; simpa using hk45
 rw [show zan c i s=false by unfold zan; rw [if_neg hk1,if_neg hk2,if_neg hk3,if_neg hk45]]
 have F:=ai chAV.eq_1<|ai stAV.eq_1<|ai k0<|ai hs<|ai bneA<|ai e1<|ai e2<|ai e3<|ai e4<|ai hm<|ai b0<|ai p1<|ai p2<|ai p3<|ai p4<|ai hq<|ai b1<|ai b2<|ai b3<|ai z2<|ai e5<|e6
 repeat (first | refine st ?_ | refine cC f1 ?_ | refine cC f2 ?_ | refine cC f3 ?_ | refine cC f4 ?_ | refine cC fn ?_ | refine cC f5 ?_ | refine cC f6 ?_ | refine cC f7 ?_)
 exact aR
end

end Go.Proofs.YtlmekdfleciejaaGreatDoor