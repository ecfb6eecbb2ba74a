/- Contracts of the program's checks of a state, a variable, a transition: by the walk without memory. -/
import Derived.Test.YtlmekdfleciejaaGreatDoorD21
import Derived.Test.YtlmekdfleciejaaGreatDoorD5
import Derived.Test.YtlmekdfleciejaaGreatDoorD7
set_option maxRecDepth 100000
set_option maxHeartbeats 8000000
set_option linter.unusedSimpArgs false
namespace Go.Proofs.YtlmekdfleciejaaGreatDoor
open Go.RowKit
section
def zh5 (a1 a8:Addr) (c:ChD):AV:=if (chk c).1=0 then nilE else if (chk c).1=8 then errV (chk c).2 (sentV a8) else errV (chk c).2 (sentV a1)
theorem zjD {a1 a8:Addr} {c:ChD} {p:Int} (h:chk c=(0,p)):zh5 a1 a8 c=nilE:=by unfold zh5; rw [h]; rfl
theorem ze1 {a1 a8:Addr} {c:ChD} {p:Int} (h:chk c=(8,p)):zh5 a1 a8 c=errV p (sentV a8):=by unfold zh5; rw [h]; rfl
theorem za7 {a1 a8:Addr} {c:ChD} {p:Int} (h:chk c=(1,p)):zh5 a1 a8 c=errV p (sentV a1):=by unfold zh5; rw [h]; rfl
theorem zez {c:ChD} {i:Nat} {v:VarD} (h:c.vars[i]? =some v):zeA c i=varB c i v:=by unfold zeA; rw [h]
theorem zfJ {c:ChD} {i:Nat} {s:StD} (h:c.states[i]? =some s):zfy c i=zap c i s:=by unfold zfy; rw [h]
theorem zfI {c:ChD} {i:Nat} {t:TrD} (h:c.trans[i]? =some t):zh6 c i=zcq c t:=by unfold zh6; rw [h]
theorem zcA {p:Nat->Bool} {i:Nat} (h: ∀j,j<i->p j=true) (hi:p i=true): ∀j,j<i+1->p j=true:=fun j hj=>by
 by_cases e:j=i
 ·rw [e]; exact hi
 ·exact h j (by omega)
theorem zns (env:Env) (a1 a8:Addr) (he:ChEnv env a1 a8) (c:ChD) (hc:zdq c)
 (hV:c.vars.length<=8-> ∀(i:Nat) (v:VarD),c.vars[i]? =some v->Con Tryz.prog env 179 [.agg (chAV c),I i] (B (varB c i v)))
 (hS:c.states.length<=32-> ∀(i:Nat) (s:StD),c.states[i]? =some s->Con Tryz.prog env 180 [.agg (chAV c),I i] (B (zap c i s)))
 (hT: ∀t,t∈c.trans->Con Tryz.prog env 183 [.agg (chAV c), .agg (trAV t)] (B (zcq c t))):Con Tryz.prog env 135 [.agg (chAV c)] (zh5 a1 a8 c):=by
 have g8:=zkq he.e8
 have fname:=zca env c.name (by have:=hc.1; unfold maxLen at this; omega)
 have fbad:=zfD env a1 a8 he (-1) (by omega)
 have fat:=zke env c c.initial
 have z1:=zbK c.states
 refine zaa Tryz.func135 rfl Tryz.call135 (by rw [Tryz.ntmps135]; simp) ?_
 rw [Tryz.ntmps135,Tryz.results135]
 by_cases l1:32<c.states.length
 ·have k1:(32:Int)< (c.states.length:Int):=by omega
  rw [ze1 (show chk c=(8, -1) by unfold chk; rw [if_pos (.inl l1)])]
  have F:=ai chAV.eq_1<|ai k1<|g8
  repeat (first | refine st ?_ | refine cC (zcy env _ a8) ?_)
  exact aR
 have k1: ¬(32:Int)< (c.states.length:Int):=by omega
 by_cases l2:64<c.trans.length
 ·have k2:(64:Int)< (c.trans.length:Int):=by omega
  rw [ze1 (show chk c=(8, -1) by unfold chk; rw [if_pos (.inr (.inl l2))])]
  have F:=ai chAV.eq_1<|ai k1<|ai k2<|g8
  repeat (first | refine st ?_ | refine cC (zcy env _ a8) ?_)
  exact aR
 have k2: ¬(64:Int)< (c.trans.length:Int):=by omega
 by_cases l3:8<c.vars.length
 ·have k3:(8:Int)< (c.vars.length:Int):=by omega
  rw [ze1 (show chk c=(8, -1) by unfold chk; rw [if_pos (.inr (.inr l3))])]
  have F:=ai chAV.eq_1<|ai k1<|ai k2<|ai k3<|g8
  repeat (first | refine st ?_ | refine cC (zcy env _ a8) ?_)
  exact aR
 have k3: ¬(8:Int)< (c.vars.length:Int):=by omega
 have hl: ¬(32<c.states.length\/64<c.trans.length\/8<c.vars.length):=by omega
 cases e1:zaA c.name
 ·rw [za7 (show chk c=(1, -1) by unfold chk; rw [if_neg hl,if_pos (.inr e1)])]
  have F:=ai chAV.eq_1<|ai k1<|ai k2<|ai k3<|e1
  repeat (first | refine st ?_ | refine cC fname ?_ | refine cC fbad ?_)
  exact aR
 cases e2:(c.states == [])
 case true=>
  rw [za7 (show chk c=(1, -1) by unfold chk; rw [if_neg hl,if_pos (.inl (by simpa using e2))])]
  have F:=ai chAV.eq_1<|ai k1<|ai k2<|ai k3<|ai e1<|ai z1<|e2
  repeat (first | refine st ?_ | refine cC fname ?_ | refine cC fbad ?_)
  exact aR
 have hne: ¬(c.states=[]\/zaA c.name=false):=by
  rw [e1]
  simpa using e2
 have hc1:chk c=(match zax (zeA c) c.vars.length with
  | some i=>(1,2000+(i:Int))
  | none=>match zax (zfy c) c.states.length with
    | some i=>(1,(i:Int))
    | none=>if topB c=false then(1, -1) else match zax (zh6 c) c.trans.length with
      | some i=>(1,1000+(i:Int))
      | none=>(0, -1)):=by
  unfold chk
  rw [if_neg hl,if_neg hne]
  rfl
 have F:=ai chAV.eq_1<|ai k1<|ai k2<|ai k3<|ai e1<|ai z1<|e2
 repeat (first | refine st ?_ | refine cC fname ?_ | refine cC fbad ?_)
 refine zab (D:=Nat) (fun i vs=>[(1, .loc 1 (vs 1) 0 0),(38,I c.vars.length),(39,I i)]) (fun _ _=>[(1,⟨5,[chAV c],26,false⟩)]) (fun i _ _=>i<=c.vars.length/\ ∀j,j<i->zeA c j=true) (fun i=>c.vars.length-i) 0 ?_ ?_ ?_ ?_
 ·exact⟨Nat.zero_le _,fun j hj=>by omega⟩
 ·(simp only [go_sem,F])
 ·(simp only [go_sem,F])
 rintro i ws esc ⟨hi,hall⟩
 by_cases hlt:i<c.vars.length
 ·obtain⟨v,hv,_⟩:=zam hlt
  have q1:=nlt hlt
  have q2:=zac hlt (by omega)
  have hcon:=hV (by omega) i v hv
  cases e:varB c i v
  ·have q3:IntKind.i64.wrap (2000+(i:Int))=2000+(i:Int):=zbU (by omega) (by omega)
   have hb:=zfD env a1 a8 he (2000+(i:Int)) (by omega)
   rw [za7 (show chk c=(1,2000+(i:Int)) by rw [hc1,zbf hlt hall (by rw [zez hv]; exact e)])]
   have F:=ai chAV.eq_1<|ai q1<|ai q2<|ai q3<|e
   repeat (first | refine st ?_ | refine cC hcon ?_ | refine cC hb ?_)
   exact aR
  ·have F:=ai chAV.eq_1<|ai q1<|ai q2<|e
   repeat (first | refine st ?_ | refine cC hcon ?_)
   refine⟨i+1,⟨hlt,zcA hall (by rw [zez hv]; exact e)⟩, ?_, ?_, ?_⟩
   ·(simp only [go_sem,F])
   ·(simp only [go_sem,F])
   ·omega
 have q1: ¬(i:Int)< (c.vars.length:Int):=by omega
 have hvn:zax (zeA c) c.vars.length=none:=zaH fun j hj=>hall j (by omega)
 rw [hvn] at hc1
 have F:=ai chAV.eq_1<|q1
 repeat refine st ?_
 refine zab (D:=Nat) (fun i vs=>[(1, .loc 1 (vs 1) 0 0),(52,I c.states.length),(53,I i)]) (fun _ _=>[(1,⟨5,[chAV c],26,false⟩)]) (fun i _ _=>i<=c.states.length/\ ∀j,j<i->zfy c j=true) (fun i=>c.states.length-i) 0 ?_ ?_ ?_ ?_
 ·exact⟨Nat.zero_le _,fun j hj=>by omega⟩
 ·(simp only [go_sem,F])
 ·(simp only [go_sem,F])
 try clear ws esc hi hall q1 hlt i
 rintro i ws esc ⟨hi,hall⟩
 by_cases hlt:i<c.states.length
 ·obtain⟨s,hs,_⟩:=zam hlt
  have q1:=nlt hlt
  have q2:=zac hlt (by omega)
  have hcon:=hS (by omega) i s hs
  cases e:zap c i s
  ·have hb:=zfD env a1 a8 he (i:Int) (by omega)
   rw [za7 (show chk c=(1,(i:Int)) by rw [hc1,zbf hlt hall (by rw [zfJ hs]; exact e)])]
   have F:=ai chAV.eq_1<|ai q1<|ai q2<|e
   repeat (first | refine st ?_ | refine cC hcon ?_ | refine cC hb ?_)
   exact aR
  ·have F:=ai chAV.eq_1<|ai q1<|ai q2<|e
   repeat (first | refine st ?_ | refine cC hcon ?_)
   refine⟨i+1,⟨hlt,zcA hall (by rw [zfJ hs]; exact e)⟩, ?_, ?_, ?_⟩
   ·(simp only [go_sem,F])
   ·(simp only [go_sem,F])
   ·omega
 have q1: ¬(i:Int)< (c.states.length:Int):=by omega
 have hsn:zax (zfy c) c.states.length=none:=zaH fun j hj=>hall j (by omega)
 rw [hsn] at hc1
 by_cases p1:0<=c.initial
 case neg=>
  have ht:topB c=false:=by unfold topB at_; rw [if_neg p1]
  rw [za7 (show chk c=(1, -1) by rw [hc1,if_pos ht])]
  have F:=ai chAV.eq_1<|ai q1<|p1
  repeat (first | refine st ?_ | refine cC fat ?_ | refine cC fbad ?_)
  exact aR
 obtain⟨m,hm⟩:=zdU p1
 by_cases p2:(m:Int)< (c.states.length:Int)
 case neg=>
  have ht:topB c=false:=by unfold topB; rw [hm,zbp,List.getElem?_eq_none (by omega)]
  have p2':(c.initial< (c.states.length:Int))=False:=by rw [hm]; simpa using p2
  rw [za7 (show chk c=(1, -1) by rw [hc1,if_pos ht])]
  have F:=ai chAV.eq_1<|ai q1<|ai p1<|p2'
  repeat (first | refine st ?_ | refine cC fat ?_ | refine cC fbad ?_)
  exact aR
 obtain⟨q,hq,_⟩:=zam (show m<c.states.length by omega)
 have fnorm:=zcS env q
 have htop:topB c=((q.parent == -1)&&zbV q):=by unfold topB; rw [hm,zbp,hq]
 rw [hm] at fat
 cases e3:(q.parent == -1)
 ·rw [za7 (show chk c=(1, -1) by rw [hc1,if_pos (by rw [htop,e3]; rfl)])]
  have F:=ai chAV.eq_1<|ai stAV.eq_1<|ai q1<|ai hm<|ai p2<|ai hq<|ai e3<|bneA
  repeat (first | refine st ?_ | refine cC fat ?_ | refine cC fbad ?_ | refine cC fnorm ?_)
  exact aR
 cases e4:zbV q
 ·rw [za7 (show chk c=(1, -1) by rw [hc1,if_pos (by rw [htop,e3,e4]; rfl)])]
  have F:=ai chAV.eq_1<|ai stAV.eq_1<|ai q1<|ai hm<|ai p2<|ai hq<|ai e3<|ai e4<|bneA
  repeat (first | refine st ?_ | refine cC fat ?_ | refine cC fbad ?_ | refine cC fnorm ?_)
  exact aR
 rw [if_neg (by rw [htop,e3,e4]; simp)] at hc1
 have F:=ai chAV.eq_1<|ai stAV.eq_1<|ai q1<|ai hm<|ai p2<|ai hq<|ai e3<|ai e4<|bneA
 repeat (first | refine st ?_ | refine cC fat ?_ | refine cC fbad ?_ | refine cC fnorm ?_)
 refine zab (D:=Nat) (fun i vs=>[(1, .loc 1 (vs 1) 0 0),(90,trsAV c.trans),(91,I c.trans.length),(92,I i)]) (fun _ _=>[(1,⟨5,[chAV c],26,false⟩)]) (fun i _ _=>i<=c.trans.length/\ ∀j,j<i->zh6 c j=true) (fun i=>c.trans.length-i) 0 ?_ ?_ ?_ ?_
 ·exact⟨Nat.zero_le _,fun j hj=>by omega⟩
 ·have F:=ai chAV.eq_1<|hm
  (simp only [go_sem,F])
 ·have F:=ai chAV.eq_1<|hm
  (simp only [go_sem,F])
 try clear ws esc hi hall q1 hlt i
 rintro i ws esc ⟨hi,hall⟩
 by_cases hlt:i<c.trans.length
 ·obtain⟨t,ht,htm⟩:=zam hlt
  have q1:=nlt hlt
  have q2:=zac hlt (by omega)
  have hcon:=hT t htm
  cases e:zcq c t
  ·have q3:IntKind.i64.wrap (1000+(i:Int))=1000+(i:Int):=zbU (by omega) (by omega)
   have hb:=zfD env a1 a8 he (1000+(i:Int)) (by omega)
   rw [za7 (show chk c=(1,1000+(i:Int)) by rw [hc1,zbf hlt hall (by rw [zfI ht]; exact e)])]
   have F:=ai chAV.eq_1<|ai trAV.eq_1<|ai q1<|ai q2<|ai q3<|ai ht<|e
   repeat (first | refine st ?_ | refine cC hcon ?_ | refine cC hb ?_)
   exact aR
  ·have F:=ai chAV.eq_1<|ai trAV.eq_1<|ai q1<|ai q2<|ai ht<|e
   repeat (first | refine st ?_ | refine cC hcon ?_)
   refine⟨i+1,⟨hlt,zcA hall (by rw [zfI ht]; exact e)⟩, ?_, ?_, ?_⟩
   ·(simp only [go_sem,F])
   ·(simp only [go_sem,F])
   ·omega
 have q1: ¬(i:Int)< (c.trans.length:Int):=by omega
 rw [zjD (show chk c=(0, -1) by rw [hc1,zaH fun j hj=>hall j (by omega)])]
 have F:=ai chAV.eq_1<|q1
 repeat refine st ?_
 exact aR
end
section
theorem ziK {n:Nat} (h:n<=maxLen):n<=9223372036854775807:=by unfold maxLen at h; omega
theorem zdN {l:List ActD} (h:l.length<=maxLen/\ ∀y∈l,zdr y):l.length<=9223372036854775807/\ ∀a∈l,a.name.length<=9223372036854775807:=⟨ziK h.1,fun a ha=>ziK (h.2 a ha).1⟩
theorem zl2 (env:Env) (a1 a8:Addr) (he:ChEnv env a1 a8) (c:ChD) (hn:c.states.length<=1000000) (i:Nat) (s:StD) (hs:c.states[i]? =some s) (hf:zji s):Con Tryz.prog env 180 [.agg (chAV c),I i] (B (zap c i s)):=by
 have hi:i<c.states.length:=(List.getElem?_eq_some_iff.1 hs).1
 have k0:=nlt hi
 have f1:=zca env s.name (ziK hf.1)
 have f2:=znr env c s.name hn
 have f3:=zkd env c i s hs
 have f5:=zga env a1 a8 he c s.inn (zdN hf.2.1).1 (zdN hf.2.1).2
 have f6:=zga env a1 a8 he c s.out (zdN hf.2.2).1 (zdN hf.2.2).2
 unfold zap
 refine zaa Tryz.func180 rfl Tryz.call180 (by rw [Tryz.ntmps180]; simp) ?_
 rw [Tryz.ntmps180,Tryz.results180]
 cases e1:zaA s.name
 ·have F:=ai chAV.eq_1<|ai k0<|ai hs<|ai stAV.eq_1<|e1
  repeat (first | refine st ?_ | refine cC f1 ?_ | refine cC f2 ?_ | refine cC f3 ?_)
  exact aR
 cases e2:(zgP c s.name==(i:Int))
 ·have F:=ai chAV.eq_1<|ai k0<|ai hs<|ai stAV.eq_1<|ai e1<|e2
  repeat (first | refine st ?_ | refine cC f1 ?_ | refine cC f2 ?_ | refine cC f3 ?_)
  exact aR
 cases e3:zaC c i s
 ·have F:=ai chAV.eq_1<|ai k0<|ai hs<|ai stAV.eq_1<|ai e1<|ai e2<|e3
  repeat (first | refine st ?_ | refine cC f1 ?_ | refine cC f2 ?_ | refine cC f3 ?_)
  exact aR
 have f4:=zl3 env c i s hs hn (zno hi e3) (ziK hf.2.1.1) (ziK hf.2.2.1)
 cases e4:zan c i s
 ·have F:=ai chAV.eq_1<|ai k0<|ai hs<|ai stAV.eq_1<|ai e1<|ai e2<|ai e3<|e4
  repeat (first | refine st ?_ | refine cC f1 ?_ | refine cC f2 ?_ | refine cC f3 ?_ | refine cC f4 ?_)
  exact aR
 cases e5:zbE c.vars.length c.states.length s.inn
 ·have F:=ai chAV.eq_1<|ai k0<|ai hs<|ai stAV.eq_1<|ai e1<|ai e2<|ai e3<|ai e4<|e5
  repeat (first | refine st ?_ | refine cC f1 ?_ | refine cC f2 ?_ | refine cC f3 ?_ | refine cC f4 ?_ | refine cC f5 ?_)
  exact aR
 ·have F:=ai chAV.eq_1<|ai k0<|ai hs<|ai stAV.eq_1<|ai e1<|ai e2<|ai e3<|ai e4<|e5
  repeat (first | refine st ?_ | refine cC f1 ?_ | refine cC f2 ?_ | refine cC f3 ?_ | refine cC f4 ?_ | refine cC f5 ?_ | refine cC f6 ?_)
  exact aR
theorem zgb {c:ChD} {nm:List UInt8} {j:Nat} {x:VarD} (h:newVar c nm j=true) (hx:c.vars[j]? =some x) (e:(x.name==nm)=false):newVar c nm (j+1)=true:=by
 unfold newVar at h |-
 exact zbC h hx (by rw [e]; rfl)
theorem zpd (env:Env) (c:ChD) (hn:c.vars.length<=1000000) (i:Nat) (v:VarD) (hv:c.vars[i]? =some v) (hf:zgp v):Con Tryz.prog env 179 [.agg (chAV c),I i] (B (varB c i v)):=by
 have hi:i<c.vars.length:=(List.getElem?_eq_some_iff.1 hv).1
 have k0:=nlt hi
 have k9:(i:Int)<=(c.vars.length:Int):=by omega
 have f1:=zca env v.name (ziK hf)
 have f2:=zmP env v.start
 have hlen:(c.vars.take i).length=i:=by rw [List.length_take]; omega
 refine zaa Tryz.func179 rfl Tryz.call179 (by rw [Tryz.ntmps179]; simp) ?_
 rw [Tryz.ntmps179,Tryz.results179]
 have F:=ai chAV.eq_1<|ai k0<|ai k9<|ai hv<|ai zcp.eq_1<|hlen
 repeat (first | refine oO rfl (by simp only [go_sem,Nat.sub_zero,F]; exact⟨rfl,rfl⟩) ?_ | refine gR ?_ | refine gO ?_ | refine oZ (zb5 ?_) | refine oZ ?_ | refine oS ?_ | refine gT ?_ | refine gD Tryz.mixed ?_ | refine oB ?_ | refine oK ?_ | (refine oX ?_; simp only [zaQ,zaE, ↓reduceIte,Nat.reduceEqDiff,reduceCtorEq]) | refine oY (by simp only [go_sem,Nat.sub_zero,F]; exact iR) ?_ | refine oN (by simp only [go_sem,Nat.sub_zero,F]; exact iR) ?_)
 refine zab (D:=Nat) (fun j vs=>[(5, .loc 5 (vs 5) 0 0),(16,varsAV (c.vars.take i)),(17,I i),(18,I j)]) (fun _ _=>[(5,⟨2,[zcp v],108,false⟩)]) (fun j _ _=>j<=i/\newVar c v.name j=true) (fun j=>i-j) 0 ?_ ?_ ?_ ?_
 ·exact⟨Nat.zero_le _,rfl⟩
 ·(simp only [go_sem,Nat.sub_zero,F])
 ·(simp only [go_sem,Nat.sub_zero,F])
 rintro j ws esc ⟨hj,hall⟩
 by_cases hlt:j<i
 ·obtain⟨x,hx,_⟩:=zam (show j<c.vars.length by omega)
  have hx':(c.vars.take i)[j]? =some x:=by rw [List.getElem?_take,if_pos hlt]; exact hx
  have k1:=nlt hlt
  have k2:=zac hlt (by omega)
  cases e:(x.name==v.name)
  ·have F:=ai k1<|ai k2<|ai hx'<|ai hlen<|ai zcp.eq_1<|e
   repeat refine st ?_
   refine⟨j+1,⟨hlt,zgb hall hx e⟩, ?_, ?_, ?_⟩
   ·(simp only [go_sem,F])
   ·(simp only [go_sem,F])
   ·omega
  ·rw [show varB c i v=false by unfold varB newVar; rw [ze6 (p:=fun x:VarD=> !(x.name==v.name)) hx' (by rw [e]; rfl)]; rfl]
   have F:=ai k1<|ai k2<|ai hx'<|ai hlen<|ai zcp.eq_1<|e
   repeat refine st ?_
   exact aR
 ·have k1: ¬(j:Int)< (i:Int):=by omega
  obtain rfl:j=i:=by omega
  have hr:varB c j v=(zaA v.name&& !(v.name == [100,97,116,97])&& !(v.name == [105,110])&&zjc v.start):=by
   unfold varB zjc
   rw [hall]
   simp only [Bool.true_and,Bool.and_assoc]
  rw [hr]
  cases e1:zaA v.name
  ·have F:=ai k1<|ai zcp.eq_1<|e1
   repeat (first | refine st ?_ | refine cC f1 ?_ | refine cC f2 ?_)
   exact aR
  cases e2:(v.name == [100,97,116,97])
  ·cases e3:(v.name == [105,110])
   ·have F:=ai k1<|ai zcp.eq_1<|ai e1<|ai e2<|e3
    repeat (first | refine st ?_ | refine cC f1 ?_ | refine cC f2 ?_)
    exact aR
   ·have F:=ai k1<|ai zcp.eq_1<|ai e1<|ai e2<|e3
    repeat (first | refine st ?_ | refine cC f1 ?_ | refine cC f2 ?_)
    exact aR
  ·have F:=ai k1<|ai zcp.eq_1<|ai e1<|e2
   repeat (first | refine st ?_ | refine cC f1 ?_ | refine cC f2 ?_)
   exact aR
end

end Go.Proofs.YtlmekdfleciejaaGreatDoor