/- scriniumref24.Tran, Check: by the walk without memory. -/
import Derived.Test.YtlmekdfleciejaaGreatDoorD31
import Derived.Test.YtlmekdfleciejaaGreatDoorD5
import Derived.Test.YtlmekdfleciejaaGreatDoorD7
import Derived.Test.YtlmekdfleciejaaGreatDoorD22
set_option maxRecDepth 100000
set_option maxHeartbeats 8000000
set_option linter.unusedSimpArgs false
namespace Go.Proofs.YtlmekdfleciejaaGreatDoor
open Go.RowKit
theorem zlY (env:Env) (c:ChD) (hn:c.states.length<=1000000) (i:Nat) (s:StD) (hs:c.states[i]? =some s):Con Tryz.prog env 94 [.agg (chAV c),I i] (B (zap c i s)):=by
 by_cases hp:s.parent= -1
 ·exact zhK env c hn i s hs hp
 ·exact zix env c hn i s hs hp
theorem zne (env:Env) (c:ChD) (t:TrD):Con Tryz.prog env 96 [.agg (chAV c), .agg (trAV t)] (B (zcq c t)):=by
 have f2:=zb7 env t.event
 have f3:=ziB env c t.guard
 have f4:=zdg env c t.acts
 have z1:=zbK t.guard
 refine zaa Tryz.func96 rfl Tryz.call96 (by rw [Tryz.ntmps96]; simp) ?_
 rw [Tryz.ntmps96,Tryz.results96]
 by_cases p1:t.src<0
 ·rw [show zcq c t=false by unfold zcq zar at_; rw [if_neg (show ¬0<=t.src by omega)]; rfl]
  have F:=ai chAV.eq_1<|ai trAV.eq_1<|p1
  repeat refine st ?_
  exact aR
 obtain⟨m,hm⟩:=zdU (show 0<=t.src by omega)
 have p1: ¬(m:Int)<0:=by omega
 by_cases p2:c.states.length<=m
 ·have p2':(c.states.length:Int)<=(m:Int):=by omega
  rw [show zcq c t=false by unfold zcq zar; rw [hm,zbp,List.getElem?_eq_none p2]; rfl]
  have F:=ai chAV.eq_1<|ai trAV.eq_1<|ai hm<|ai p1<|p2'
  repeat refine st ?_
  exact aR
 have p2': ¬(c.states.length:Int)<=(m:Int):=by omega
 have k0:=nlt (show m<c.states.length by omega)
 obtain⟨q,hq,_⟩:=zam (show m<c.states.length by omega)
 have f1:=zcQ env q
 have hnq:zar c t.src=zbV q:=by unfold zar; rw [hm,zbp,hq]
 have hr:zcq c t=(zbV q&&((t.event == [])||zaA t.event)&&((t.guard == [])||zaK t.guard c.vars.length c.states.length)&&zbE c.vars.length c.states.length t.acts&&((t.target == -1)||(decide (0<=t.target)&&decide (t.target<c.states.length)))):=by unfold zcq; rw [hnq]
 rw [hr]
 cases e1:zbV q
 ·rw [Bool.false_and,Bool.false_and,Bool.false_and,Bool.false_and]
  have F:=ai chAV.eq_1<|ai trAV.eq_1<|ai stAV.eq_1<|ai hm<|ai hq<|ai p1<|ai p2'<|ai k0<|e1
  repeat (first | refine st ?_ | refine cC f1 ?_)
  exact aR
 by_cases p3:t.target< -1
 ·rw [show ((t.target == -1)||(decide (0<=t.target)&&decide (t.target<c.states.length)))=false by rw [za3 (show t.target≠ -1 by omega),decide_eq_false (show ¬0<=t.target by omega)]; rfl,Bool.and_false]
  have F:=ai chAV.eq_1<|ai trAV.eq_1<|ai stAV.eq_1<|ai hm<|ai hq<|ai p1<|ai p2'<|ai k0<|ai e1<|p3
  repeat (first | refine st ?_ | refine cC f1 ?_)
  exact aR
 by_cases p4:(c.states.length:Int)<=t.target
 ·rw [show ((t.target == -1)||(decide (0<=t.target)&&decide (t.target<c.states.length)))=false by rw [za3 (show t.target≠ -1 by omega),decide_eq_false (show ¬t.target<c.states.length by omega)]; simp,Bool.and_false]
  have F:=ai chAV.eq_1<|ai trAV.eq_1<|ai stAV.eq_1<|ai hm<|ai hq<|ai p1<|ai p2'<|ai k0<|ai e1<|ai p3<|p4
  repeat (first | refine st ?_ | refine cC f1 ?_)
  exact aR
 rw [show ((t.target == -1)||(decide (0<=t.target)&&decide (t.target<c.states.length)))=true by rw [Bool.or_eq_true,Bool.and_eq_true]; simp; omega,Bool.and_true,Bool.true_and]
 cases e2:(t.event == [])
 ·rw [Bool.false_or]
  cases e3:zaA t.event
  ·rw [Bool.false_and,Bool.false_and]
   have F:=ai chAV.eq_1<|ai trAV.eq_1<|ai stAV.eq_1<|ai hm<|ai hq<|ai p1<|ai p2'<|ai k0<|ai e1<|ai p3<|ai p4<|ai e2<|e3
   repeat (first | refine st ?_ | refine cC f1 ?_ | refine cC f2 ?_)
   exact aR
  rw [Bool.true_and]
  cases e4:(t.guard == [])
  ·rw [Bool.false_or]
   cases e5:zaK t.guard c.vars.length c.states.length
   ·rw [Bool.false_and]
    have F:=ai chAV.eq_1<|ai trAV.eq_1<|ai stAV.eq_1<|ai hm<|ai hq<|ai p1<|ai p2'<|ai k0<|ai e1<|ai p3<|ai p4<|ai e2<|ai e3<|ai z1<|ai e4<|e5
    repeat (first | refine st ?_ | refine cC f1 ?_ | refine cC f2 ?_ | refine cC f3 ?_ | refine cC f4 ?_)
    exact aR
   ·rw [Bool.true_and]
    have F:=ai chAV.eq_1<|ai trAV.eq_1<|ai stAV.eq_1<|ai hm<|ai hq<|ai p1<|ai p2'<|ai k0<|ai e1<|ai p3<|ai p4<|ai e2<|ai e3<|ai z1<|ai e4<|e5
    repeat (first | refine st ?_ | refine cC f1 ?_ | refine cC f2 ?_ | refine cC f3 ?_ | refine cC f4 ?_)
    exact aR
  ·rw [Bool.true_or,Bool.true_and]
   have F:=ai chAV.eq_1<|ai trAV.eq_1<|ai stAV.eq_1<|ai hm<|ai hq<|ai p1<|ai p2'<|ai k0<|ai e1<|ai p3<|ai p4<|ai e2<|ai e3<|ai z1<|e4
   repeat (first | refine st ?_ | refine cC f1 ?_ | refine cC f2 ?_ | refine cC f3 ?_ | refine cC f4 ?_)
   exact aR
 rw [Bool.true_or,Bool.true_and]
 cases e4:(t.guard == [])
 ·rw [Bool.false_or]
  cases e5:zaK t.guard c.vars.length c.states.length
  ·rw [Bool.false_and]
   have F:=ai chAV.eq_1<|ai trAV.eq_1<|ai stAV.eq_1<|ai hm<|ai hq<|ai p1<|ai p2'<|ai k0<|ai e1<|ai p3<|ai p4<|ai e2<|ai z1<|ai e4<|e5
   repeat (first | refine st ?_ | refine cC f1 ?_ | refine cC f2 ?_ | refine cC f3 ?_ | refine cC f4 ?_)
   exact aR
  ·rw [Bool.true_and]
   have F:=ai chAV.eq_1<|ai trAV.eq_1<|ai stAV.eq_1<|ai hm<|ai hq<|ai p1<|ai p2'<|ai k0<|ai e1<|ai p3<|ai p4<|ai e2<|ai z1<|ai e4<|e5
   repeat (first | refine st ?_ | refine cC f1 ?_ | refine cC f2 ?_ | refine cC f3 ?_ | refine cC f4 ?_)
   exact aR
 ·rw [Bool.true_or,Bool.true_and]
  have F:=ai chAV.eq_1<|ai trAV.eq_1<|ai stAV.eq_1<|ai hm<|ai hq<|ai p1<|ai p2'<|ai k0<|ai e1<|ai p3<|ai p4<|ai e2<|ai z1<|e4
  repeat (first | refine st ?_ | refine cC f1 ?_ | refine cC f2 ?_ | refine cC f3 ?_ | refine cC f4 ?_)
  exact aR
abbrev chkT (c:ChD):AV:= .tuple [I (chk c).1,I (chk c).2]
theorem zbM {c:ChD} {x:Int×Int} (h:chk c=x):chkT c= .tuple [I x.1,I x.2]:=by unfold chkT; rw [h]
theorem zl1 (env:Env) (c:ChD):Con Tryz.prog env 36 [.agg (chAV c)] (chkT c):=by
 have fname:=zb7 env c.name
 have z1:=zbK c.states
 refine zaa Tryz.func36 rfl Tryz.call36 (by rw [Tryz.ntmps36]; simp) ?_
 rw [Tryz.ntmps36,Tryz.results36]
 by_cases l1:32<c.states.length
 ·have k1:(32:Int)< (c.states.length:Int):=by omega
  rw [zbM (show chk c=(8, -1) by unfold chk; rw [if_pos (.inl l1)])]
  have F:=ai chAV.eq_1<|k1
  repeat refine st ?_
  exact aR
 have k1: ¬(32:Int)< (c.states.length:Int):=by omega
 by_cases l2:64<c.trans.length
 ·have k2:(64:Int)< (c.trans.length:Int):=by omega
  rw [zbM (show chk c=(8, -1) by unfold chk; rw [if_pos (.inr (.inl l2))])]
  have F:=ai chAV.eq_1<|ai k1<|k2
  repeat refine st ?_
  exact aR
 have k2: ¬(64:Int)< (c.trans.length:Int):=by omega
 by_cases l3:8<c.vars.length
 ·have k3:(8:Int)< (c.vars.length:Int):=by omega
  rw [zbM (show chk c=(8, -1) by unfold chk; rw [if_pos (.inr (.inr l3))])]
  have F:=ai chAV.eq_1<|ai k1<|ai k2<|k3
  repeat refine st ?_
  exact aR
 have k3: ¬(8:Int)< (c.vars.length:Int):=by omega
 have hl: ¬(32<c.states.length\/64<c.trans.length\/8<c.vars.length):=by omega
 cases e2:(c.states == [])
 case true=>
  rw [zbM (show chk c=(1, -1) by unfold chk; rw [if_neg hl,if_pos (.inl (by simpa using e2))])]
  have F:=ai chAV.eq_1<|ai k1<|ai k2<|ai k3<|ai z1<|e2
  repeat (first | refine st ?_ | refine cC fname ?_)
  exact aR
 cases e1:zaA c.name
 ·rw [zbM (show chk c=(1, -1) by unfold chk; rw [if_neg hl,if_pos (.inr e1)])]
  have F:=ai chAV.eq_1<|ai k1<|ai k2<|ai k3<|ai z1<|ai e2<|e1
  repeat (first | refine st ?_ | refine cC fname ?_)
  exact aR
 have hne: ¬(c.states=[]\/zaA c.name=false):=by
  rw [e1]
  simpa using e2
 have hc1:chk c=(match zax (zeA c) c.vars.length with
  | some i=>(1,2000+(i:Int))
  | none=>match zax (zfy c) c.states.length with
    | some i=>(1,(i:Int))
    | none=>if topB c=false then(1, -1) else match zax (zh6 c) c.trans.length with
      | some i=>(1,1000+(i:Int))
      | none=>(0, -1)):=by
  unfold chk
  rw [if_neg hl,if_neg hne]
  rfl
 have F:=ai chAV.eq_1<|ai k1<|ai k2<|ai k3<|ai z1<|ai e2<|e1
 repeat (first | refine st ?_ | refine cC fname ?_)
 refine zab (D:=Nat) (fun i vs=>[(1, .loc 1 (vs 1) 0 0),(4,I i)]) (fun _ _=>[(1,⟨5,[chAV c],26,false⟩)]) (fun i _ _=>i<=c.vars.length/\ ∀j,j<i->zeA c j=true) (fun i=>c.vars.length-i) 0 ?_ ?_ ?_ ?_
 ·exact⟨Nat.zero_le _,fun j hj=>by omega⟩
 ·(simp only [go_sem,F])
 ·have F:=chAV.eq_1
  (simp only [go_sem,F])
 rintro i ws esc ⟨hi,hall⟩
 by_cases hlt:i<c.vars.length
 ·obtain⟨v,hv,_⟩:=zam hlt
  have q1:=nlt hlt
  have q2:=zac hlt (by omega)
  have hcon:=zo9 env c (by omega) i v hv
  cases e:varB c i v
  ·have q3:IntKind.i64.wrap (2000+(i:Int))=2000+(i:Int):=zbU (by omega) (by omega)
   rw [zbM (show chk c=(1,2000+(i:Int)) by rw [hc1,zbf hlt hall (by rw [zez hv]; exact e)])]
   have F:=ai chAV.eq_1<|ai q1<|ai q2<|ai q3<|e
   repeat (first | refine st ?_ | refine cC hcon ?_)
   exact aR
  ·have F:=ai chAV.eq_1<|ai q1<|ai q2<|e
   repeat (first | refine st ?_ | refine cC hcon ?_)
   refine⟨i+1,⟨hlt,zcA hall (by rw [zez hv]; exact e)⟩, ?_, ?_, ?_⟩
   ·(simp only [go_sem,F])
   ·have F:=chAV.eq_1
    (simp only [go_sem,F])
   ·omega
 have q1: ¬(i:Int)< (c.vars.length:Int):=by omega
 have hvn:zax (zeA c) c.vars.length=none:=zaH fun j hj=>hall j (by omega)
 rw [hvn] at hc1
 have F:=ai chAV.eq_1<|q1
 repeat refine st ?_
 refine zab (D:=Nat) (fun i vs=>[(1, .loc 1 (vs 1) 0 0),(5,I i)]) (fun _ _=>[(1,⟨5,[chAV c],26,false⟩)]) (fun i _ _=>i<=c.states.length/\ ∀j,j<i->zfy c j=true) (fun i=>c.states.length-i) 0 ?_ ?_ ?_ ?_
 ·exact⟨Nat.zero_le _,fun j hj=>by omega⟩
 ·(simp only [go_sem,F])
 ·have F:=chAV.eq_1
  (simp only [go_sem,F])
 try clear ws esc hi hall q1 hlt i
 rintro i ws esc ⟨hi,hall⟩
 by_cases hlt:i<c.states.length
 ·obtain⟨s,hs,_⟩:=zam hlt
  have q1:=nlt hlt
  have q2:=zac hlt (by omega)
  have hcon:=zlY env c (by omega) i s hs
  cases e:zap c i s
  ·rw [zbM (show chk c=(1,(i:Int)) by rw [hc1,zbf hlt hall (by rw [zfJ hs]; exact e)])]
   have F:=ai chAV.eq_1<|ai q1<|ai q2<|e
   repeat (first | refine st ?_ | refine cC hcon ?_)
   exact aR
  ·have F:=ai chAV.eq_1<|ai q1<|ai q2<|e
   repeat (first | refine st ?_ | refine cC hcon ?_)
   refine⟨i+1,⟨hlt,zcA hall (by rw [zfJ hs]; exact e)⟩, ?_, ?_, ?_⟩
   ·(simp only [go_sem,F])
   ·have F:=chAV.eq_1
    (simp only [go_sem,F])
   ·omega
 have q1: ¬(i:Int)< (c.states.length:Int):=by omega
 have hsn:zax (zfy c) c.states.length=none:=zaH fun j hj=>hall j (by omega)
 rw [hsn] at hc1
 by_cases p1:c.initial<0
 ·have ht:topB c=false:=by unfold topB at_; rw [if_neg (by omega)]
  rw [zbM (show chk c=(1, -1) by rw [hc1,if_pos ht])]
  have F:=ai chAV.eq_1<|ai q1<|p1
  repeat refine st ?_
  exact aR
 obtain⟨m,hm⟩:=zdU (show 0<=c.initial by omega)
 have p1': ¬(m:Int)<0:=by omega
 by_cases p2:(c.states.length:Int)<=(m:Int)
 ·have ht:topB c=false:=by unfold topB; rw [hm,zbp,List.getElem?_eq_none (by omega)]
  rw [zbM (show chk c=(1, -1) by rw [hc1,if_pos ht])]
  have F:=ai chAV.eq_1<|ai q1<|ai hm<|ai p1'<|p2
  repeat refine st ?_
  exact aR
 have p3:=nlt (show m<c.states.length by omega)
 obtain⟨q,hq,_⟩:=zam (show m<c.states.length by omega)
 have fnorm:=zcQ env q
 have htop:topB c=((q.parent == -1)&&zbV q):=by unfold topB; rw [hm,zbp,hq]
 cases e3:(q.parent == -1)
 ·rw [zbM (show chk c=(1, -1) by rw [hc1,if_pos (by rw [htop,e3]; rfl)])]
  have F:=ai chAV.eq_1<|ai stAV.eq_1<|ai q1<|ai hm<|ai p1'<|ai p2<|ai p3<|ai hq<|ai e3<|bneA
  repeat (first | refine st ?_ | refine cC fnorm ?_)
  exact aR
 cases e4:zbV q
 ·rw [zbM (show chk c=(1, -1) by rw [hc1,if_pos (by rw [htop,e3,e4]; rfl)])]
  have F:=ai chAV.eq_1<|ai stAV.eq_1<|ai q1<|ai hm<|ai p1'<|ai p2<|ai p3<|ai hq<|ai e3<|ai e4<|bneA
  repeat (first | refine st ?_ | refine cC fnorm ?_)
  exact aR
 rw [if_neg (by rw [htop,e3,e4]; simp)] at hc1
 have F:=ai chAV.eq_1<|ai stAV.eq_1<|ai q1<|ai hm<|ai p1'<|ai p2<|ai p3<|ai hq<|ai e3<|ai e4<|bneA
 repeat (first | refine st ?_ | refine cC fnorm ?_)
 refine zab (D:=Nat) (fun i vs=>[(1, .loc 1 (vs 1) 0 0),(6,I i)]) (fun _ _=>[(1,⟨5,[chAV c],26,false⟩)]) (fun i _ _=>i<=c.trans.length/\ ∀j,j<i->zh6 c j=true) (fun i=>c.trans.length-i) 0 ?_ ?_ ?_ ?_
 ·exact⟨Nat.zero_le _,fun j hj=>by omega⟩
 ·have F:=ai chAV.eq_1<|hm
  (simp only [go_sem,F])
 ·have F:=ai chAV.eq_1<|hm
  (simp only [go_sem,F])
 try clear ws esc hi hall q1 hlt i
 rintro i ws esc ⟨hi,hall⟩
 by_cases hlt:i<c.trans.length
 ·obtain⟨t,ht,_⟩:=zam hlt
  have q1:=nlt hlt
  have q2:=zac hlt (by omega)
  have hcon:=zne env c t
  cases e:zcq c t
  ·have q3:IntKind.i64.wrap (1000+(i:Int))=1000+(i:Int):=zbU (by omega) (by omega)
   rw [zbM (show chk c=(1,1000+(i:Int)) by rw [hc1,zbf hlt hall (by rw [zfI ht]; exact e)])]
   have F:=ai chAV.eq_1<|ai trAV.eq_1<|ai q1<|ai q2<|ai q3<|ai ht<|e
   repeat (first | refine st ?_ | refine cC hcon ?_)
   exact aR
  ·have F:=ai chAV.eq_1<|ai trAV.eq_1<|ai q1<|ai q2<|ai ht<|e
   repeat (first | refine st ?_ | refine cC hcon ?_)
   refine⟨i+1,⟨hlt,zcA hall (by rw [zfI ht]; exact e)⟩, ?_, ?_, ?_⟩
   ·(simp only [go_sem,F])
   ·have F:=chAV.eq_1
    (simp only [go_sem,F])
   ·omega
 have q1: ¬(i:Int)< (c.trans.length:Int):=by omega
 rw [zbM (show chk c=(0, -1) by rw [hc1,zaH fun j hj=>hall j (by omega)])]
 have F:=ai chAV.eq_1<|q1
 repeat refine st ?_
 exact aR
end Go.Proofs.YtlmekdfleciejaaGreatDoor
