/- What tree.New lays, plain. -/
import Derived.Test.YtnbjaghjdeicmaaGreatDoorG11
import Derived.Test.YtnbjaghjdeicmaaGreatDoorG5
import Derived.Test.YtnbjaghjdeicmaaGreatDoorG10
import Derived.Test.YtnbjaghjdeicmaaGreatDoorG9
import Derived.LaidHandle
import Derived.Test.YtnbjaghjdeicmaaGreatDoorG8
set_option maxRecDepth 100000
set_option maxHeartbeats 8000000
set_option linter.unusedSimpArgs false
namespace Go.Proofs.YtnbjaghjdeicmaaGreatDoor
section
open Go.RowKit
def zi6 (a1 a8:Addr) (c:ChD):AV:=if (chk c).1=0 then nilE else if (chk c).1=8 then errV (chk c).2 (sentV a8) else errV (chk c).2 (sentV a1)
theorem zkz {a1 a8:Addr} {c:ChD} {p:Int} (h:chk c=(0,p)):zi6 a1 a8 c=nilE:=by unfold zi6; rw [h]; rfl
theorem zfC {a1 a8:Addr} {c:ChD} {p:Int} (h:chk c=(8,p)):zi6 a1 a8 c=errV p (sentV a8):=by unfold zi6; rw [h]; rfl
theorem zbs {a1 a8:Addr} {c:ChD} {p:Int} (h:chk c=(1,p)):zi6 a1 a8 c=errV p (sentV a1):=by unfold zi6; rw [h]; rfl
theorem zfd {c:ChD} {i:Nat} {v:VarD} (h:c.vars[i]? =some v):zfe c i=varB c i v:=by unfold zfe; rw [h]
theorem zgx {c:ChD} {i:Nat} {s:StD} (h:c.states[i]? =some s):zgl c i=zay c i s:=by unfold zgl; rw [h]
theorem zgw {c:ChD} {i:Nat} {t:TrD} (h:c.trans[i]? =some t):zi7 c i=zcM c t:=by unfold zi7; rw [h]
theorem zcX {p:Nat->Bool} {i:Nat} (h: ∀j,j<i->p j=true) (hi:p i=true): ∀j,j<i+1->p j=true:=fun j hj=>by
 by_cases e:j=i
 ·rw [e]; exact hi
 ·exact h j (by omega)
theorem zoU (env:Env) (a1 a8:Addr) (he:ChEnv env a1 a8) (c:ChD) (hc:zhj c)
 (hV:c.vars.length<=8-> ∀(i:Nat) (v:VarD),c.vars[i]? =some v->Con Tryz.prog env 199 [.agg (chAV c),I i] (B (varB c i v)))
 (hS:c.states.length<=32-> ∀(i:Nat) (s:StD),c.states[i]? =some s->Con Tryz.prog env 200 [.agg (chAV c),I i] (B (zay c i s)))
 (hT: ∀t,t∈c.trans->Con Tryz.prog env 203 [.agg (chAV c), .agg (trAV t)] (B (zcM c t))):Con Tryz.prog env 123 [.agg (chAV c)] (zi6 a1 a8 c):=by
 have g8:=zhG he.e8
 have fname:=zbD env c.name (by have:=hc.1; unfold maxLen at this; omega)
 have fbad:=zgq env a1 a8 he (-1) (by omega)
 have fat:=zlj env c c.initial
 have z1:=zb4 c.states
 refine zaa Tryz.func123 rfl Tryz.call123 (by rw [Tryz.ntmps123]; simp) ?_
 rw [Tryz.ntmps123,Tryz.results123]
 by_cases l1:32<c.states.length
 ·have k1:(32:Int)< (c.states.length:Int):=by omega
  rw [zfC (show chk c=(8, -1) by unfold chk; rw [if_pos (.inl l1)])]
  have F:=ai chAV.eq_1<|ai k1<|g8
  repeat (first | refine st ?_ | refine cC (zb5 env _ a8) ?_)
  exact aR
 have k1: ¬(32:Int)< (c.states.length:Int):=by omega
 by_cases l2:64<c.trans.length
 ·have k2:(64:Int)< (c.trans.length:Int):=by omega
  rw [zfC (show chk c=(8, -1) by unfold chk; rw [if_pos (.inr (.inl l2))])]
  have F:=ai chAV.eq_1<|ai k1<|ai k2<|g8
  repeat (first | refine st ?_ | refine cC (zb5 env _ a8) ?_)
  exact aR
 have k2: ¬(64:Int)< (c.trans.length:Int):=by omega
 by_cases l3:8<c.vars.length
 ·have k3:(8:Int)< (c.vars.length:Int):=by omega
  rw [zfC (show chk c=(8, -1) by unfold chk; rw [if_pos (.inr (.inr l3))])]
  have F:=ai chAV.eq_1<|ai k1<|ai k2<|ai k3<|g8
  repeat (first | refine st ?_ | refine cC (zb5 env _ a8) ?_)
  exact aR
 have k3: ¬(8:Int)< (c.vars.length:Int):=by omega
 have hl: ¬(32<c.states.length\/64<c.trans.length\/8<c.vars.length):=by omega
 cases e1:zaC c.name
 ·rw [zbs (show chk c=(1, -1) by unfold chk; rw [if_neg hl,if_pos (.inr e1)])]
  have F:=ai chAV.eq_1<|ai k1<|ai k2<|ai k3<|e1
  repeat (first | refine st ?_ | refine cC fname ?_ | refine cC fbad ?_)
  exact aR
 cases e2:(c.states == [])
 case true=>
  rw [zbs (show chk c=(1, -1) by unfold chk; rw [if_neg hl,if_pos (.inl (by simpa using e2))])]
  have F:=ai chAV.eq_1<|ai k1<|ai k2<|ai k3<|ai e1<|ai z1<|e2
  repeat (first | refine st ?_ | refine cC fname ?_ | refine cC fbad ?_)
  exact aR
 have hne: ¬(c.states=[]\/zaC c.name=false):=by
  rw [e1]
  simpa using e2
 have hc1:chk c=(match zaJ (zfe c) c.vars.length with
  | some i=>(1,2000+(i:Int))
  | none=>match zaJ (zgl c) c.states.length with
    | some i=>(1,(i:Int))
    | none=>if topB c=false then(1, -1) else match zaJ (zi7 c) c.trans.length with
      | some i=>(1,1000+(i:Int))
      | none=>(0, -1)):=by
  unfold chk
  rw [if_neg hl,if_neg hne]
  rfl
 have F:=ai chAV.eq_1<|ai k1<|ai k2<|ai k3<|ai e1<|ai z1<|e2
 repeat (first | refine st ?_ | refine cC fname ?_ | refine cC fbad ?_)
 refine zac (D:=Nat) (fun i vs=>[(1, .loc 1 (vs 1) 0 0),(38,I c.vars.length),(39,I i)]) (fun _ _=>[(1,⟨5,[chAV c],26,false⟩)]) (fun i _ _=>i<=c.vars.length/\ ∀j,j<i->zfe c j=true) (fun i=>c.vars.length-i) 0 ?_ ?_ ?_ ?_
 ·exact⟨Nat.zero_le _,fun j hj=>by omega⟩
 ·(simp only [go_sem,F])
 ·(simp only [go_sem,F])
 rintro i ws esc ⟨hi,hall⟩
 by_cases hlt:i<c.vars.length
 ·obtain⟨v,hv,_⟩:=zap hlt
  have q1:=nlt hlt
  have q2:=zab hlt (by omega)
  have hcon:=hV (by omega) i v hv
  cases e:varB c i v
  ·have q3:IntKind.i64.wrap (2000+(i:Int))=2000+(i:Int):=zbQ (by omega) (by omega)
   have hb:=zgq env a1 a8 he (2000+(i:Int)) (by omega)
   rw [zbs (show chk c=(1,2000+(i:Int)) by rw [hc1,zbG hlt hall (by rw [zfd hv]; exact e)])]
   have F:=ai chAV.eq_1<|ai q1<|ai q2<|ai q3<|e
   repeat (first | refine st ?_ | refine cC hcon ?_ | refine cC hb ?_)
   exact aR
  ·have F:=ai chAV.eq_1<|ai q1<|ai q2<|e
   repeat (first | refine st ?_ | refine cC hcon ?_)
   refine⟨i+1,⟨hlt,zcX hall (by rw [zfd hv]; exact e)⟩, ?_, ?_, ?_⟩
   ·(simp only [go_sem,F])
   ·(simp only [go_sem,F])
   ·omega
 have q1: ¬(i:Int)< (c.vars.length:Int):=by omega
 have hvn:zaJ (zfe c) c.vars.length=none:=zaI fun j hj=>hall j (by omega)
 rw [hvn] at hc1
 have F:=ai chAV.eq_1<|q1
 repeat refine st ?_
 refine zac (D:=Nat) (fun i vs=>[(1, .loc 1 (vs 1) 0 0),(52,I c.states.length),(53,I i)]) (fun _ _=>[(1,⟨5,[chAV c],26,false⟩)]) (fun i _ _=>i<=c.states.length/\ ∀j,j<i->zgl c j=true) (fun i=>c.states.length-i) 0 ?_ ?_ ?_ ?_
 ·exact⟨Nat.zero_le _,fun j hj=>by omega⟩
 ·(simp only [go_sem,F])
 ·(simp only [go_sem,F])
 try clear ws esc hi hall q1 hlt i
 rintro i ws esc ⟨hi,hall⟩
 by_cases hlt:i<c.states.length
 ·obtain⟨s,hs,_⟩:=zap hlt
  have q1:=nlt hlt
  have q2:=zab hlt (by omega)
  have hcon:=hS (by omega) i s hs
  cases e:zay c i s
  ·have hb:=zgq env a1 a8 he (i:Int) (by omega)
   rw [zbs (show chk c=(1,(i:Int)) by rw [hc1,zbG hlt hall (by rw [zgx hs]; exact e)])]
   have F:=ai chAV.eq_1<|ai q1<|ai q2<|e
   repeat (first | refine st ?_ | refine cC hcon ?_ | refine cC hb ?_)
   exact aR
  ·have F:=ai chAV.eq_1<|ai q1<|ai q2<|e
   repeat (first | refine st ?_ | refine cC hcon ?_)
   refine⟨i+1,⟨hlt,zcX hall (by rw [zgx hs]; exact e)⟩, ?_, ?_, ?_⟩
   ·(simp only [go_sem,F])
   ·(simp only [go_sem,F])
   ·omega
 have q1: ¬(i:Int)< (c.states.length:Int):=by omega
 have hsn:zaJ (zgl c) c.states.length=none:=zaI fun j hj=>hall j (by omega)
 rw [hsn] at hc1
 by_cases p1:0<=c.initial
 case neg=>
  have ht:topB c=false:=by unfold topB at_; rw [if_neg p1]
  rw [zbs (show chk c=(1, -1) by rw [hc1,if_pos ht])]
  have F:=ai chAV.eq_1<|ai q1<|p1
  repeat (first | refine st ?_ | refine cC fat ?_ | refine cC fbad ?_)
  exact aR
 obtain⟨m,hm⟩:=zeq p1
 by_cases p2:(m:Int)< (c.states.length:Int)
 case neg=>
  have ht:topB c=false:=by unfold topB; rw [hm,zce,List.getElem?_eq_none (by omega)]
  have p2':(c.initial< (c.states.length:Int))=False:=by rw [hm]; simpa using p2
  rw [zbs (show chk c=(1, -1) by rw [hc1,if_pos ht])]
  have F:=ai chAV.eq_1<|ai q1<|ai p1<|p2'
  repeat (first | refine st ?_ | refine cC fat ?_ | refine cC fbad ?_)
  exact aR
 obtain⟨q,hq,_⟩:=zap (show m<c.states.length by omega)
 have fnorm:=zdg env q
 have htop:topB c=((q.parent == -1)&&zcq q):=by unfold topB; rw [hm,zce,hq]
 rw [hm] at fat
 cases e3:(q.parent == -1)
 ·rw [zbs (show chk c=(1, -1) by rw [hc1,if_pos (by rw [htop,e3]; rfl)])]
  have F:=ai chAV.eq_1<|ai stAV.eq_1<|ai q1<|ai hm<|ai p2<|ai hq<|ai e3<|bneA
  repeat (first | refine st ?_ | refine cC fat ?_ | refine cC fbad ?_ | refine cC fnorm ?_)
  exact aR
 cases e4:zcq q
 ·rw [zbs (show chk c=(1, -1) by rw [hc1,if_pos (by rw [htop,e3,e4]; rfl)])]
  have F:=ai chAV.eq_1<|ai stAV.eq_1<|ai q1<|ai hm<|ai p2<|ai hq<|ai e3<|ai e4<|bneA
  repeat (first | refine st ?_ | refine cC fat ?_ | refine cC fbad ?_ | refine cC fnorm ?_)
  exact aR
 rw [if_neg (by rw [htop,e3,e4]; simp)] at hc1
 have F:=ai chAV.eq_1<|ai stAV.eq_1<|ai q1<|ai hm<|ai p2<|ai hq<|ai e3<|ai e4<|bneA
 repeat (first | refine st ?_ | refine cC fat ?_ | refine cC fbad ?_ | refine cC fnorm ?_)
 refine zac (D:=Nat) (fun i vs=>[(1, .loc 1 (vs 1) 0 0),(90,trsAV c.trans),(91,I c.trans.length),(92,I i)]) (fun _ _=>[(1,⟨5,[chAV c],26,false⟩)]) (fun i _ _=>i<=c.trans.length/\ ∀j,j<i->zi7 c j=true) (fun i=>c.trans.length-i) 0 ?_ ?_ ?_ ?_
 ·exact⟨Nat.zero_le _,fun j hj=>by omega⟩
 ·have F:=ai chAV.eq_1<|hm
  (simp only [go_sem,F])
 ·have F:=ai chAV.eq_1<|hm
  (simp only [go_sem,F])
 try clear ws esc hi hall q1 hlt i
 rintro i ws esc ⟨hi,hall⟩
 by_cases hlt:i<c.trans.length
 ·obtain⟨t,ht,htm⟩:=zap hlt
  have q1:=nlt hlt
  have q2:=zab hlt (by omega)
  have hcon:=hT t htm
  cases e:zcM c t
  ·have q3:IntKind.i64.wrap (1000+(i:Int))=1000+(i:Int):=zbQ (by omega) (by omega)
   have hb:=zgq env a1 a8 he (1000+(i:Int)) (by omega)
   rw [zbs (show chk c=(1,1000+(i:Int)) by rw [hc1,zbG hlt hall (by rw [zgw ht]; exact e)])]
   have F:=ai chAV.eq_1<|ai trAV.eq_1<|ai q1<|ai q2<|ai q3<|ai ht<|e
   repeat (first | refine st ?_ | refine cC hcon ?_ | refine cC hb ?_)
   exact aR
  ·have F:=ai chAV.eq_1<|ai trAV.eq_1<|ai q1<|ai q2<|ai ht<|e
   repeat (first | refine st ?_ | refine cC hcon ?_)
   refine⟨i+1,⟨hlt,zcX hall (by rw [zgw ht]; exact e)⟩, ?_, ?_, ?_⟩
   ·(simp only [go_sem,F])
   ·(simp only [go_sem,F])
   ·omega
 have q1: ¬(i:Int)< (c.trans.length:Int):=by omega
 rw [zkz (show chk c=(0, -1) by rw [hc1,zaI fun j hj=>hall j (by omega)])]
 have F:=ai chAV.eq_1<|q1
 repeat refine st ?_
 exact aR
end
section
open Go.RowKit
theorem zjP {n:Nat} (h:n<=maxLen):n<=9223372036854775807:=by unfold maxLen at h; omega
theorem zek {l:List ActD} (h:l.length<=maxLen/\ ∀y∈l,zdX y):l.length<=9223372036854775807/\ ∀a∈l,a.name.length<=9223372036854775807:=⟨zjP h.1,fun a ha=>zjP (h.2 a ha).1⟩
theorem znh (env:Env) (a1 a8:Addr) (he:ChEnv env a1 a8) (c:ChD) (hn:c.states.length<=1000000) (i:Nat) (s:StD) (hs:c.states[i]? =some s) (hf:zmv s):Con Tryz.prog env 200 [.agg (chAV c),I i] (B (zay c i s)):=by
 have hi:i<c.states.length:=(List.getElem?_eq_some_iff.1 hs).1
 have k0:=nlt hi
 have f1:=zbD env s.name (zjP hf.1)
 have f2:=zoT env c s.name hn
 have f3:=zli env c i s hs
 have f5:=zg3 env a1 a8 he c s.inn (zek hf.2.1).1 (zek hf.2.1).2
 have f6:=zg3 env a1 a8 he c s.out (zek hf.2.2).1 (zek hf.2.2).2
 unfold zay
 refine zaa Tryz.func200 rfl Tryz.call200 (by rw [Tryz.ntmps200]; simp) ?_
 rw [Tryz.ntmps200,Tryz.results200]
 cases e1:zaC s.name
 ·have F:=ai chAV.eq_1<|ai k0<|ai hs<|ai stAV.eq_1<|e1
  repeat (first | refine st ?_ | refine cC f1 ?_ | refine cC f2 ?_ | refine cC f3 ?_)
  exact aR
 cases e2:(zhJ c s.name==(i:Int))
 ·have F:=ai chAV.eq_1<|ai k0<|ai hs<|ai stAV.eq_1<|ai e1<|e2
  repeat (first | refine st ?_ | refine cC f1 ?_ | refine cC f2 ?_ | refine cC f3 ?_)
  exact aR
 cases e3:zaV c i s
 ·have F:=ai chAV.eq_1<|ai k0<|ai hs<|ai stAV.eq_1<|ai e1<|ai e2<|e3
  repeat (first | refine st ?_ | refine cC f1 ?_ | refine cC f2 ?_ | refine cC f3 ?_)
  exact aR
 have f4:=zni env c i s hs hn (zoP hi e3) (zjP hf.2.1.1) (zjP hf.2.2.1)
 cases e4:zas c i s
 ·have F:=ai chAV.eq_1<|ai k0<|ai hs<|ai stAV.eq_1<|ai e1<|ai e2<|ai e3<|e4
  repeat (first | refine st ?_ | refine cC f1 ?_ | refine cC f2 ?_ | refine cC f3 ?_ | refine cC f4 ?_)
  exact aR
 cases e5:zbY c.vars.length c.states.length s.inn
 ·have F:=ai chAV.eq_1<|ai k0<|ai hs<|ai stAV.eq_1<|ai e1<|ai e2<|ai e3<|ai e4<|e5
  repeat (first | refine st ?_ | refine cC f1 ?_ | refine cC f2 ?_ | refine cC f3 ?_ | refine cC f4 ?_ | refine cC f5 ?_)
  exact aR
 ·have F:=ai chAV.eq_1<|ai k0<|ai hs<|ai stAV.eq_1<|ai e1<|ai e2<|ai e3<|ai e4<|e5
  repeat (first | refine st ?_ | refine cC f1 ?_ | refine cC f2 ?_ | refine cC f3 ?_ | refine cC f4 ?_ | refine cC f5 ?_ | refine cC f6 ?_)
  exact aR
theorem zg4 {c:ChD} {nm:List UInt8} {j:Nat} {x:VarD} (h:newVar c nm j=true) (hx:c.vars[j]? =some x) (e:(x.name==nm)=false):newVar c nm (j+1)=true:=by
 unfold newVar at h |-
 exact zbV h hx (by rw [e]; rfl)
theorem zqP (env:Env) (c:ChD) (hn:c.vars.length<=1000000) (i:Nat) (v:VarD) (hv:c.vars[i]? =some v) (hf:zhi v):Con Tryz.prog env 199 [.agg (chAV c),I i] (B (varB c i v)):=by
 have hi:i<c.vars.length:=(List.getElem?_eq_some_iff.1 hv).1
 have k0:=nlt hi
 have k9:(i:Int)<=(c.vars.length:Int):=by omega
 have f1:=zbD env v.name (zjP hf)
 have f2:=zjj env v.start
 have hlen:(c.vars.take i).length=i:=by rw [List.length_take]; omega
 refine zaa Tryz.func199 rfl Tryz.call199 (by rw [Tryz.ntmps199]; simp) ?_
 rw [Tryz.ntmps199,Tryz.results199]
 have F:=ai chAV.eq_1<|ai k0<|ai k9<|ai hv<|ai zcL.eq_1<|hlen
 repeat (first | refine oO rfl (by simp only [go_sem,Nat.sub_zero,F]; exact⟨rfl,rfl⟩) ?_ | refine gR ?_ | refine gO ?_ | refine oZ (zaA ?_) | refine oZ ?_ | refine oS ?_ | refine gT ?_ | refine gD Tryz.mixed ?_ | refine oB ?_ | refine oK ?_ | (refine oX ?_; simp only [zao,zag, ↓reduceIte,Nat.reduceEqDiff,reduceCtorEq]) | refine oY (by simp only [go_sem,Nat.sub_zero,F]; exact iR) ?_ | refine oN (by simp only [go_sem,Nat.sub_zero,F]; exact iR) ?_)
 refine zac (D:=Nat) (fun j vs=>[(5, .loc 5 (vs 5) 0 0),(16,varsAV (c.vars.take i)),(17,I i),(18,I j)]) (fun _ _=>[(5,⟨2,[zcL v],145,false⟩)]) (fun j _ _=>j<=i/\newVar c v.name j=true) (fun j=>i-j) 0 ?_ ?_ ?_ ?_
 ·exact⟨Nat.zero_le _,rfl⟩
 ·(simp only [go_sem,Nat.sub_zero,F])
 ·(simp only [go_sem,Nat.sub_zero,F])
 rintro j ws esc ⟨hj,hall⟩
 by_cases hlt:j<i
 ·obtain⟨x,hx,_⟩:=zap (show j<c.vars.length by omega)
  have hx':(c.vars.take i)[j]? =some x:=by rw [List.getElem?_take,if_pos hlt]; exact hx
  have k1:=nlt hlt
  have k2:=zab hlt (by omega)
  cases e:(x.name==v.name)
  ·have F:=ai k1<|ai k2<|ai hx'<|ai hlen<|ai zcL.eq_1<|e
   repeat refine st ?_
   refine⟨j+1,⟨hlt,zg4 hall hx e⟩, ?_, ?_, ?_⟩
   ·(simp only [go_sem,F])
   ·(simp only [go_sem,F])
   ·omega
  ·rw [show varB c i v=false by unfold varB newVar; rw [zfH (p:=fun x:VarD=> !(x.name==v.name)) hx' (by rw [e]; rfl)]; rfl]
   have F:=ai k1<|ai k2<|ai hx'<|ai hlen<|ai zcL.eq_1<|e
   repeat refine st ?_
   exact aR
 ·have k1: ¬(j:Int)< (i:Int):=by omega
  obtain rfl:j=i:=by omega
  have hr:varB c j v=(zaC v.name&& !(v.name == [100,97,116,97])&& !(v.name == [105,110])&&zdw v.start):=by
   unfold varB zdw
   rw [hall]
   simp only [Bool.true_and,Bool.and_assoc]
  rw [hr]
  cases e1:zaC v.name
  ·have F:=ai k1<|ai zcL.eq_1<|e1
   repeat (first | refine st ?_ | refine cC f1 ?_ | refine cC f2 ?_)
   exact aR
  cases e2:(v.name == [100,97,116,97])
  ·cases e3:(v.name == [105,110])
   ·have F:=ai k1<|ai zcL.eq_1<|ai e1<|ai e2<|e3
    repeat (first | refine st ?_ | refine cC f1 ?_ | refine cC f2 ?_)
    exact aR
   ·have F:=ai k1<|ai zcL.eq_1<|ai e1<|ai e2<|e3
    repeat (first | refine st ?_ | refine cC f1 ?_ | refine cC f2 ?_)
    exact aR
  ·have F:=ai k1<|ai zcL.eq_1<|ai e1<|e2
   repeat (first | refine st ?_ | refine cC f1 ?_ | refine cC f2 ?_)
   exact aR
end
section
open Go.RowKit
theorem zoS (env:Env) (a1 a8:Addr) (he:ChEnv env a1 a8) (c:ChD) (t:TrD) (hf:zmt t):Con Tryz.prog env 203 [.agg (chAV c), .agg (trAV t)] (B (zcM c t)):=by
 have f1:=zlj env c t.src
 have f3:=zbD env t.event (zjP hf.1)
 have f4:=zjJ env a1 a8 he c t.guard
 have f5:=zg3 env a1 a8 he c t.acts (zek hf.2.2).1 (zek hf.2.2).2
 have f6:=zlj env c t.target
 have z1:=zb4 t.guard
 by_cases h1:0<=t.src
 case neg=>
  rw [show zcM c t=false by unfold zcM zaM at_; rw [if_neg h1]; rfl]
  refine zaa Tryz.func203 rfl Tryz.call203 (by rw [Tryz.ntmps203]; simp) ?_
  rw [Tryz.ntmps203,Tryz.results203]
  have F:=ai chAV.eq_1<|ai trAV.eq_1<|h1
  repeat (first | refine st ?_ | refine cC f1 ?_)
  exact aR
 obtain⟨m,hm⟩:=zeq h1
 by_cases h2:(m:Int)< (c.states.length:Int)
 case neg=>
  rw [show zcM c t=false by unfold zcM zaM; rw [hm,zce,List.getElem?_eq_none (by omega)]; rfl]
  have hm':(t.src< (c.states.length:Int))=False:=by rw [hm]; simpa using h2
  refine zaa Tryz.func203 rfl Tryz.call203 (by rw [Tryz.ntmps203]; simp) ?_
  rw [Tryz.ntmps203,Tryz.results203]
  have F:=ai chAV.eq_1<|ai trAV.eq_1<|ai h1<|hm'
  repeat (first | refine st ?_ | refine cC f1 ?_)
  exact aR
 obtain⟨q,hq,_⟩:=zap (show m<c.states.length by omega)
 have f2:=zdg env q
 have hr:zcM c t=(zcq q&&((t.event == [])||zaC t.event)&&((t.guard == [])||za0 t.guard c.vars.length c.states.length)&&zbY c.vars.length c.states.length t.acts&&((t.target == -1)||(decide (0<=t.target)&&decide (t.target<c.states.length)))):=by unfold zcM; rw [hm,zed hq]
 rw [hr]
 rw [hm] at f1
 cases e1:zcq q
 ·rw [Bool.false_and,Bool.false_and,Bool.false_and,Bool.false_and]
  refine zaa Tryz.func203 rfl Tryz.call203 (by rw [Tryz.ntmps203]; simp) ?_
  rw [Tryz.ntmps203,Tryz.results203]
  have F:=ai chAV.eq_1<|ai trAV.eq_1<|ai stAV.eq_1<|ai hm<|ai h2<|ai hq<|e1
  repeat (first | refine st ?_ | refine cC f1 ?_ | refine cC f2 ?_)
  exact aR
 have body:((t.event == [])||zaC t.event)=true->Con Tryz.prog env 203 [.agg (chAV c), .agg (trAV t)] (B (((t.guard == [])||za0 t.guard c.vars.length c.states.length)&&zbY c.vars.length c.states.length t.acts&&((t.target == -1)||(decide (0<=t.target)&&decide (t.target<c.states.length))))):=fun hev=>by
  have go: ∀ {b1 b2:Bool},(t.event == [])=b1->(b1=false->zaC t.event=b2)->(b1||b2)=true->Con Tryz.prog env 203 [.agg (chAV c), .agg (trAV t)] (B (((t.guard == [])||za0 t.guard c.vars.length c.states.length)&&zbY c.vars.length c.states.length t.acts&&((t.target == -1)||(decide (0<=t.target)&&decide (t.target<c.states.length))))):=fun {b1 b2} g1 g2 g3=>by
   refine zaa Tryz.func203 rfl Tryz.call203 (by rw [Tryz.ntmps203]; simp) ?_
   rw [Tryz.ntmps203,Tryz.results203]
   cases b1 with
   | true=>
     cases e4:(t.guard == []) with
     | true=>
       cases e6:zbY c.vars.length c.states.length t.acts with
       | false=>
         have F:=ai chAV.eq_1<|ai trAV.eq_1<|ai stAV.eq_1<|ai hm<|ai h2<|ai hq<|ai e1<|ai g1<|ai z1<|ai e4<|e6
         repeat (first | refine st ?_ | refine cC f1 ?_ | refine cC f2 ?_ | refine cC f3 ?_ | refine cC f4 ?_ | refine cC f5 ?_ | refine cC f6 ?_)
         exact aR
       | true=>
         cases e7:(t.target == -1) with
         | false=>
           have F:=ai chAV.eq_1<|ai trAV.eq_1<|ai stAV.eq_1<|ai hm<|ai h2<|ai hq<|ai e1<|ai g1<|ai z1<|ai e4<|ai e6<|e7
           repeat (first | refine st ?_ | refine cC f1 ?_ | refine cC f2 ?_ | refine cC f3 ?_ | refine cC f4 ?_ | refine cC f5 ?_ | refine cC f6 ?_)
           exact aR
         | true=>
           have F:=ai chAV.eq_1<|ai trAV.eq_1<|ai stAV.eq_1<|ai hm<|ai h2<|ai hq<|ai e1<|ai g1<|ai z1<|ai e4<|ai e6<|e7
           repeat (first | refine st ?_ | refine cC f1 ?_ | refine cC f2 ?_ | refine cC f3 ?_ | refine cC f4 ?_ | refine cC f5 ?_ | refine cC f6 ?_)
           exact aR
     | false=>
       cases e5:za0 t.guard c.vars.length c.states.length with
       | false=>
         have F:=ai chAV.eq_1<|ai trAV.eq_1<|ai stAV.eq_1<|ai hm<|ai h2<|ai hq<|ai e1<|ai g1<|ai z1<|ai e4<|e5
         repeat (first | refine st ?_ | refine cC f1 ?_ | refine cC f2 ?_ | refine cC f3 ?_ | refine cC f4 ?_ | refine cC f5 ?_ | refine cC f6 ?_)
         exact aR
       | true=>
         cases e6:zbY c.vars.length c.states.length t.acts with
         | false=>
           have F:=ai chAV.eq_1<|ai trAV.eq_1<|ai stAV.eq_1<|ai hm<|ai h2<|ai hq<|ai e1<|ai g1<|ai z1<|ai e4<|ai e5<|e6
           repeat (first | refine st ?_ | refine cC f1 ?_ | refine cC f2 ?_ | refine cC f3 ?_ | refine cC f4 ?_ | refine cC f5 ?_ | refine cC f6 ?_)
           exact aR
         | true=>
           cases e7:(t.target == -1) with
           | false=>
             have F:=ai chAV.eq_1<|ai trAV.eq_1<|ai stAV.eq_1<|ai hm<|ai h2<|ai hq<|ai e1<|ai g1<|ai z1<|ai e4<|ai e5<|ai e6<|e7
             repeat (first | refine st ?_ | refine cC f1 ?_ | refine cC f2 ?_ | refine cC f3 ?_ | refine cC f4 ?_ | refine cC f5 ?_ | refine cC f6 ?_)
             exact aR
           | true=>
             have F:=ai chAV.eq_1<|ai trAV.eq_1<|ai stAV.eq_1<|ai hm<|ai h2<|ai hq<|ai e1<|ai g1<|ai z1<|ai e4<|ai e5<|ai e6<|e7
             repeat (first | refine st ?_ | refine cC f1 ?_ | refine cC f2 ?_ | refine cC f3 ?_ | refine cC f4 ?_ | refine cC f5 ?_ | refine cC f6 ?_)
             exact aR
   | false=>
     have g2:=g2 rfl
     obtain rfl:b2=true:=by simpa using g3
     cases e4:(t.guard == []) with
     | true=>
       cases e6:zbY c.vars.length c.states.length t.acts with
       | false=>
         have F:=ai chAV.eq_1<|ai trAV.eq_1<|ai stAV.eq_1<|ai hm<|ai h2<|ai hq<|ai e1<|ai g1<|ai g2<|ai z1<|ai e4<|e6
         repeat (first | refine st ?_ | refine cC f1 ?_ | refine cC f2 ?_ | refine cC f3 ?_ | refine cC f4 ?_ | refine cC f5 ?_ | refine cC f6 ?_)
         exact aR
       | true=>
         cases e7:(t.target == -1) with
         | false=>
           have F:=ai chAV.eq_1<|ai trAV.eq_1<|ai stAV.eq_1<|ai hm<|ai h2<|ai hq<|ai e1<|ai g1<|ai g2<|ai z1<|ai e4<|ai e6<|e7
           repeat (first | refine st ?_ | refine cC f1 ?_ | refine cC f2 ?_ | refine cC f3 ?_ | refine cC f4 ?_ | refine cC f5 ?_ | refine cC f6 ?_)
           exact aR
         | true=>
           have F:=ai chAV.eq_1<|ai trAV.eq_1<|ai stAV.eq_1<|ai hm<|ai h2<|ai hq<|ai e1<|ai g1<|ai g2<|ai z1<|ai e4<|ai e6<|e7
           repeat (first | refine st ?_ | refine cC f1 ?_ | refine cC f2 ?_ | refine cC f3 ?_ | refine cC f4 ?_ | refine cC f5 ?_ | refine cC f6 ?_)
           exact aR
     | false=>
       cases e5:za0 t.guard c.vars.length c.states.length with
       | false=>
         have F:=ai chAV.eq_1<|ai trAV.eq_1<|ai stAV.eq_1<|ai hm<|ai h2<|ai hq<|ai e1<|ai g1<|ai g2<|ai z1<|ai e4<|e5
         repeat (first | refine st ?_ | refine cC f1 ?_ | refine cC f2 ?_ | refine cC f3 ?_ | refine cC f4 ?_ | refine cC f5 ?_ | refine cC f6 ?_)
         exact aR
       | true=>
         cases e6:zbY c.vars.length c.states.length t.acts with
         | false=>
           have F:=ai chAV.eq_1<|ai trAV.eq_1<|ai stAV.eq_1<|ai hm<|ai h2<|ai hq<|ai e1<|ai g1<|ai g2<|ai z1<|ai e4<|ai e5<|e6
           repeat (first | refine st ?_ | refine cC f1 ?_ | refine cC f2 ?_ | refine cC f3 ?_ | refine cC f4 ?_ | refine cC f5 ?_ | refine cC f6 ?_)
           exact aR
         | true=>
           cases e7:(t.target == -1) with
           | false=>
             have F:=ai chAV.eq_1<|ai trAV.eq_1<|ai stAV.eq_1<|ai hm<|ai h2<|ai hq<|ai e1<|ai g1<|ai g2<|ai z1<|ai e4<|ai e5<|ai e6<|e7
             repeat (first | refine st ?_ | refine cC f1 ?_ | refine cC f2 ?_ | refine cC f3 ?_ | refine cC f4 ?_ | refine cC f5 ?_ | refine cC f6 ?_)
             exact aR
           | true=>
             have F:=ai chAV.eq_1<|ai trAV.eq_1<|ai stAV.eq_1<|ai hm<|ai h2<|ai hq<|ai e1<|ai g1<|ai g2<|ai z1<|ai e4<|ai e5<|ai e6<|e7
             repeat (first | refine st ?_ | refine cC f1 ?_ | refine cC f2 ?_ | refine cC f3 ?_ | refine cC f4 ?_ | refine cC f5 ?_ | refine cC f6 ?_)
             exact aR
  exact go (b1:=(t.event == [])) (b2:=zaC t.event) rfl (fun _=>rfl) hev
 cases e2:(t.event == [])
 ·cases e3:zaC t.event
  ·rw [Bool.or_false,Bool.and_false,Bool.false_and,Bool.false_and,Bool.false_and]
   refine zaa Tryz.func203 rfl Tryz.call203 (by rw [Tryz.ntmps203]; simp) ?_
   rw [Tryz.ntmps203,Tryz.results203]
   have F:=ai chAV.eq_1<|ai trAV.eq_1<|ai stAV.eq_1<|ai hm<|ai h2<|ai hq<|ai e1<|ai e2<|e3
   repeat (first | refine st ?_ | refine cC f1 ?_ | refine cC f2 ?_ | refine cC f3 ?_)
   exact aR
  ·simp only [Bool.or_true,Bool.true_and]
   exact body (by rw [e2,e3]; rfl)
 ·simp only [Bool.true_or,Bool.true_and]
  exact body (by rw [e2]; rfl)
end
section
open Go.RowKit
end
section
open Go.RowKit Go.ChangeShapes
theorem znk (env:Env) (a1 a8:Addr) (he:ChEnv env a1 a8) (c:ChD) (hc:zhj c):Con Tryz.prog env 123 [.agg (chAV c)] (zi6 a1 a8 c):=
 zoU env a1 a8 he c hc (fun hn i v hv=>zqP env c (by omega) i v hv (hc.2.1.2 v (List.mem_of_getElem? hv))) (fun hn i s hs=>znh env a1 a8 he c (by omega) i s hs (hc.2.2.1.2 s (List.mem_of_getElem? hs))) (fun t ht=>zoS env a1 a8 he c t (hc.2.2.2.2 t ht))
end
section
open Go.RowKit
def rankAll:List Nat->Nat->List Nat->List Nat
 | [],_,rk=>rk
 | k::l,n,rk=>rankAll l (n+1) (rk.set k n)
theorem zgY: ∀(l:List Nat) (n:Nat) (rk:List Nat),(rankAll l n rk).length=rk.length
 | [],_,_=>rfl
 | k::l,n,rk=>by unfold rankAll; rw [zgY,List.length_set]
theorem zgZ: ∀(l1 l2:List Nat) (n:Nat) (rk:List Nat),rankAll (l1++l2) n rk=rankAll l2 (n+l1.length) (rankAll l1 n rk)
 | [],_,_,_=>rfl
 | k::l1,l2,n,rk=>by
   show rankAll (l1++l2) (n+1) (rk.set k n)=rankAll l2 (n+(l1.length+1)) (rankAll l1 (n+1) (rk.set k n))
   rw [zgZ,Nat.add_assoc,Nat.add_comm 1]
def TR (ps ks ms bs:List (List AV)) (lf:Value) (g:Nat->Nat) (rk l:List Nat):List (Nat×Row):=
 [(1000,⟨7,[[.seq 1 ps, .seq 1 ks, .seq 1 ms, .seq 1 bs, .row 1001 (g 1001), .row 1002 (g 1002), .lit lf]],190,false⟩),(1001,⟨1,rk.map zaj,3,true⟩),(1002,⟨1,l.map zaj,3,true⟩)]
def wkTo (c:ChD) (K:List Nat) (j:Nat):List Nat:=(K.take j).flatMap fun k=>k::walkL c k
theorem zn3 {c:ChD} {K:List Nat} {j k:Nat} (h:K[j]? =some k):wkTo c K (j+1)=wkTo c K j++k::walkL c k:=by
 unfold wkTo
 rw [List.take_add_one,h,List.flatMap_append]
 simp
theorem zqt {c:ChD} (K:List Nat):wkTo c K K.length=K.flatMap fun k=>k::walkL c k:=by
 unfold wkTo
 rw [List.take_length]
theorem zsa {c:ChD} (K:List Nat) (j:Nat):(wkTo c K j).length<=(K.flatMap fun k=>k::walkL c k).length:=by
 conv=>rhs; rw [<-List.take_append_drop j K,List.flatMap_append,List.length_append]
 exact Nat.le_add_right _ _
def znZ (P:Program) (env:Env) (f:FuncId) (c:ChD) (ps ks ms bs:List (List AV)) (lf:Value) (i:Int) (l rk:List Nat):Prop:=
 ConI P env f [1000,1001,1002] (fun k=>k==1002) (fun g=>[.loc 1000 (g 1000) 0 0, .agg (chAV c),I i]) (fun g=>TR ps ks ms bs lf g rk l) (fun g=>TR ps ks ms bs lf g (rankAll (walkL c i) l.length rk) (l++walkL c i)) (fun _=> .lit (.tuple #[]))
theorem zjh (env:Env) (c:ChD) (hc:Right c) (ps ks ms bs:List (List AV)) (lf:Value) (i:Int) (l rk:List Nat) (hi: -1<=i) (hrk:rk.length=c.states.length) (hfew:l.length+(walkL c i).length<=1000000)
 (ih: ∀k∈kidsL c i false,∀l rk,rk.length=c.states.length->l.length+(walkL c k).length<=1000000->znZ Tryz.prog env 126 c ps ks ms bs lf k l rk):znZ Tryz.prog env 126 c ps ks ms bs lf i l rk:=by
 unfold znZ at*
 ·have hlen:=hc.few
  have f0:=zjH env c i (by omega)
  rw [walk_eq hc hi] at hfew |-
  have hK32:(kidsL c i false).length<=32:=Nat.le_trans (zbd c i false _) hlen
  generalize hK:kidsL c i false=K at*
  refine⟨Tryz.call126,_,_,Tryz.func126,rfl,(by intro _; rw [Tryz.ntmps126]; simp), ?_⟩
  intro vs esc hesc
  rw [Tryz.ntmps126,Tryz.results126]
  have e0:=hesc 1000 (by simp)
  have e1:=hesc 1001 (by simp)
  have e2:=hesc 1002 (by simp)
  have F:=ai e0<|ai e1<|ai e2<|chAV.eq_1
  repeat (first | refine oO rfl (by simp only [go_sem,TR,F]; exact⟨rfl,rfl⟩) ?_ | refine gR ?_ | refine gO ?_ | refine oC rfl (f0) (by simp only [go_sem,TR,F]; exact iR) (by simp only [go_sem,TR,F]; exact⟨rfl,rfl⟩) ?_ | refine oZ (zaA ?_) | refine oZ ?_ | refine oS ?_ | refine gT ?_ | refine gD Tryz.mixed ?_ | refine oB ?_ | refine oK ?_ | (refine oX ?_; simp only [zao,zag, ↓reduceIte,Nat.reduceEqDiff,reduceCtorEq]) | refine oY (by simp only [go_sem,TR,F]; exact iR) ?_ | refine oN (by simp only [go_sem,TR,F]; exact iR) ?_)
  refine zac (D:=Nat) (fun j vs'=>[(0, .loc 1000 (vs' 1000) 0 0),(4, .loc 4 (vs' 4) 0 0),(10, .row 10 (vs' 10)),(11,I K.length),(12,I j)]) (fun j vs'=>TR ps ks ms bs lf vs' (rankAll (wkTo c K j) l.length rk) (l++wkTo c K j)++[(4,⟨5,[chAV c],26,false⟩),(10,⟨1,K.map zaj,3,true⟩)]) (fun j vs' esc'=>(j<=K.length/\vs' 1000=vs 1000/\vs' 1001=vs 1001)/\esc' 1000=false/\esc' 1001=false/\esc' 1002=false) (fun j=>K.length-j) 0 ?_ ?_ ?_ ?_
  ·exact⟨⟨Nat.zero_le _,by simp only [go_sem],by simp only [go_sem]⟩,by simp only [go_sem,e0],by simp only [go_sem,e1],by simp only [go_sem,e2]⟩
  ·(simp only [go_sem,TR,F])
  ·have F:=chAV.eq_1
   (simp only [go_sem,TR,F])
   refine⟨rfl, ?_⟩
   show _=(⟨1,List.map zaj (l++[]),3,true⟩:Row)
   rw [List.append_nil]
  try clear e0 e1 e2
  rintro j ws esc' ⟨⟨hj,v0,v1⟩,e0,e1,e2⟩
  by_cases hlt:j<K.length
  ·obtain⟨k,hk⟩: ∃k,K[j]? =some k:=⟨K[j],List.getElem?_eq_getElem hlt⟩
   have hkm:k∈kidsL c i false:=by rw [hK]; exact List.mem_of_getElem? hk
   have hg:=zbm hc hkm
   have hnext:=zn3 (c:=c) hk
   have hle:=zsa (c:=c) K (j+1)
   have hrl:=zgY (wkTo c K j) l.length rk
   have hra:=zgZ (wkTo c K j) (k::walkL c k) l.length rk
   rw [hnext] at hle
   rw [List.length_append,List.length_cons] at hle
   generalize rankAll (wkTo c K j) l.length rk=rk1 at*
   have f1:=ih k (List.mem_of_getElem? hk) (l++wkTo c K j++[k]) (rk1.set k (l++wkTo c K j).length) (by rw [List.length_set,hrl,hrk]) (by simp only [List.length_append,List.length_cons,List.length_nil]; omega)
   have k1:=nlt hlt
   have k2:=zab hlt (by omega)
   have k3:((k:Nat):Int)< (rk1.length:Int):=by rw [hrl,hrk]; omega
   obtain⟨r0,hr0⟩: ∃r0,rk1[k]? =some r0:=⟨rk1[k]'(by omega),List.getElem?_eq_getElem _⟩
   have hf:Fits (l.length+(wkTo c K j).length+1) 8:=⟨by omega,by omega⟩
   have F:=ai e0<|ai e1<|ai e2<|ai chAV.eq_1<|ai k1<|ai k2<|ai k3<|ai hk<|ai hf<|ai zaj.eq_1<|hr0
   have hra2:rankAll (wkTo c K (j+1)) l.length rk=rankAll (walkL c k) (l.length+(wkTo c K j).length+1) (rk1.set k (l.length+(wkTo c K j).length)):=by rw [hnext,hra]; rfl
   repeat (first | refine oO rfl (by simp only [go_sem,TR,List.map_append,List.map_set,F]; exact⟨rfl,rfl⟩) ?_ | refine gR ?_ | refine gO ?_ | refine oZ (zaA ?_) | refine oZ ?_ | refine oS ?_ | refine gT ?_ | refine gD Tryz.mixed ?_ | refine oB ?_ | refine oK ?_ | (refine oX ?_; simp only [zao,zag, ↓reduceIte,Nat.reduceEqDiff,reduceCtorEq]) | refine oY (by simp only [go_sem,TR,List.map_append,List.map_set,F]; exact iR) ?_ | refine oN (by simp only [go_sem,TR,List.map_append,List.map_set,F]; exact iR) ?_)
   refine zgD [(1000,1000),(1001,1001),(1002,1002)] rfl (f1) (by decide) (by decide) (by simp only [go_sem,TR,List.map_append,List.map_set,F]<;>rfl) (by simp only [go_sem,TR,List.map_append,List.map_set,F,and_self]<;>trivial) (by simp only [go_sem,TR,List.map_append,List.map_set,F,and_self]<;>trivial) (by intro o; simp only [go_sem,TR,List.map_append,List.map_set,F,behind,and_self]<;>trivial) (by intro o; simp only [go_sem,TR,List.map_append,List.map_set,F]<;>rfl) (by simp only [go_sem,TR,List.map_append,List.map_set,F,behind]; exact iR) (by simp only [go_sem,TR,List.map_append,List.map_set,F,behind]; exact iR) ?_
   repeat (first | refine oO rfl (by simp only [go_sem,TR,List.map_append,List.map_set,F]; exact⟨rfl,rfl⟩) ?_ | refine gR ?_ | refine gO ?_ | refine oZ (zaA ?_) | refine oZ ?_ | refine oS ?_ | refine gT ?_ | refine gD Tryz.mixed ?_ | refine oB ?_ | refine oK ?_ | (refine oX ?_; simp only [zao,zag, ↓reduceIte,Nat.reduceEqDiff,reduceCtorEq]) | refine oY (by simp only [go_sem,TR,List.map_append,List.map_set,F]; exact iR) ?_ | refine oN (by simp only [go_sem,TR,List.map_append,List.map_set,F]; exact iR) ?_)
   refine⟨j+1,⟨⟨hlt, ?_, ?_⟩, ?_, ?_, ?_⟩, ?_, ?_,by omega⟩
   ·simp only [go_sem]
    exact v0
   ·simp only [go_sem]
    exact v1
   ·simp only [go_sem,e0]
   ·simp only [go_sem,e1]
   ·simp only [go_sem,e2]
   ·(simp only [go_sem,TR,List.map_append,List.map_set,F])
   ·have F:=ai chAV.eq_1<|ai zaj.eq_1<|ai hra2<|hnext
    (simp only [go_sem,TR,List.map_append,List.map_set,List.append_assoc,F])
    rw [hra]
    rfl
  ·obtain rfl:j=K.length:=by omega
   have k1: ¬(K.length:Int)< (K.length:Int):=by omega
   have hall:=zqt (c:=c) K
   have F:=ai e0<|ai e1<|ai e2<|ai chAV.eq_1<|ai k1<|ai hall<|ai v0<|v1
   repeat (first | refine oO rfl (by simp only [go_sem,TR,F]; exact⟨rfl,rfl⟩) ?_ | refine gR ?_ | refine gO ?_ | refine oZ (zaA ?_) | refine oZ ?_ | refine oS ?_ | refine gT ?_ | refine gD Tryz.mixed ?_ | refine oB ?_ | refine oK ?_ | (refine oX ?_; simp only [zao,zag, ↓reduceIte,Nat.reduceEqDiff,reduceCtorEq]) | refine oY (by simp only [go_sem,TR,F]; exact iR) ?_ | refine oN (by simp only [go_sem,TR,F]; exact iR) ?_)
   (refine ziD ?_ ?_<;>simp only [go_sem,TR,F,implies_true,and_self,imp_self,false_implies,AV.tuple.injEq,exists_eq_left',ne_eq])
theorem zlV (env:Env) (c:ChD) (hc:Right c) (ps ks ms bs:List (List AV)) (lf:Value): ∀(n:Nat) (i:Int) (l rk:List Nat), -1<=i->(c.states.length:Int)<=i+n->rk.length=c.states.length->l.length+(walkL c i).length<=1000000->znZ Tryz.prog env 126 c ps ks ms bs lf i l rk
 | 0,i,l,rk,hi,hn,hrk,hfew=>zjh env c hc ps ks ms bs lf i l rk hi hrk hfew fun k hk=>by have:=zbm hc hk; omega
 | n+1,i,l,rk,hi,hn,hrk,hfew=>zjh env c hc ps ks ms bs lf i l rk hi hrk hfew fun k hk l rk h1 h2=>by have:=zbm hc hk; exact zlV env c hc ps ks ms bs lf n k l rk (by omega) (by omega) h1 h2
end
section
open Go.RowKit
def umAV (m:Nat):List AV:=[.lit (.int .u32 m)]
def mkTo (c:ChD) (i:Nat):List Nat:=(List.range c.states.length).map fun j=>if j<i then mask c j else 0
def zpd (c:ChD) (i:Nat) (s:StD):Bool:=s.kind != 4&&s.kind != 5&&(((kidsL c i true).length:Int)==0)
def zbu (c:ChD):Nat->Nat
 | 0=>0
 | i+1=>match c.states[i]? with
   | some s=>if zpd c i s then zbu c i||| 2^i else zbu c i
   | none=>zbu c i
theorem zjM (c:ChD):(mkTo c 0).map umAV=List.replicate c.states.length [.lit (.int .u32 0)]:=by
 unfold mkTo
 rw [List.map_map]
 have: ∀n:Nat,(List.range n).map (umAV ∘ fun(j:Nat)=>if j<0 then mask c j else 0)=List.replicate n [.lit (.int .u32 0)]:=fun n=>by
  rw [List.eq_replicate_iff]
  refine⟨by simp,fun b hb=> ?_⟩
  obtain⟨j,_,rfl⟩:=List.mem_map.1 hb
  rfl
 exact this _
theorem zeD {c:ChD} {i j:Nat} (hj:j<c.states.length):(mkTo c i)[j]? =some (if j<i then mask c j else 0):=by
 unfold mkTo
 rw [List.getElem?_map,List.getElem?_range hj]
 rfl
theorem zbT (c:ChD) (i:Nat):(mkTo c i).length=c.states.length:=by simp [mkTo]
theorem zme {c:ChD} {i:Nat} (hi:i<c.states.length):(mkTo c i).set i (mask c i)=mkTo c (i+1):=by
 apply List.ext_getElem?
 intro k
 by_cases hk:k<c.states.length
 ·rw [zeD hk,List.getElem?_set,zbT]
  by_cases e:i=k
  ·subst e; simp [hi]
  ·rw [if_neg e,zeD hk]
   by_cases e2:k<i
   ·rw [if_pos e2,if_pos (by omega)]
   ·rw [if_neg e2,if_neg (by omega)]
 ·rw [List.getElem?_eq_none (by rw [List.length_set,zbT]; omega),List.getElem?_eq_none (by rw [zbT]; omega)]
theorem zo1 {c:ChD} {i:Nat} (hi:i<c.states.length) (h0:mask c i=0):mkTo c i=mkTo c (i+1):=by
 rw [<-zme hi,h0]
 apply List.ext_getElem?
 intro k
 rw [List.getElem?_set,zbT]
 by_cases e:i=k
 ·subst e
  rw [zeD hi]
  simp [hi]
 ·rw [if_neg e]
theorem zma {a b:Nat} (ha:a<4294967296) (hb:b<4294967296):bitV .or .u32 (a:Int) (b:Int)=((a||| b:Nat):Int):=by
 have hx:a||| b<2^32:=Nat.or_lt_two_pow (by omega) (by omega)
 show IntKind.u32.wrap ((BitVec.ofInt 32 (a:Int)||| BitVec.ofInt 32 (b:Int)).toNat:Int)=_
 rw [BitVec.toNat_or,ofInt_u32 a ha,ofInt_u32 b hb,IntKind.wrap_u32]
 omega
theorem ziA {p:Nat} (hp:p<32):IntKind.u32.wrap (1*2^min p 32)=((2^p:Nat):Int):=by
 have h:=zdF p hp
 have key: ∀q:Nat,q<4294967296->(q:Int)%4294967296=q:=fun q h=>by omega
 rw [show min p 32=p by omega,IntKind.wrap_u32,Int.one_mul,show ((2:Int)^p)=((2^p:Nat):Int) by rw [Int.natCast_pow]; rfl]
 exact key _ h
theorem zfX {c:ChD} : ∀ {i:Nat},i<=32->zbu c i<4294967296
 | 0,_=>by show 0<4294967296; decide
 | i+1,h=>by
   have ih:=zfX (c:=c) (i:=i) (by omega)
   have h2:=zdF i (by omega)
   unfold zbu
   split
   ·split
    ·exact Nat.or_lt_two_pow (n:=32) ih h2
    ·exact ih
   ·exact ih
/-! What is beneath -/
def bitL (m:Nat):List Nat:=(List.range 32).filter fun(b:Nat)=>m/2^b%2==1
theorem zhU (m:Nat):setOf m=(bitL m).map fun(b:Nat)=>(b:Int):=rfl
theorem zqb (m b:Nat):(m/2^b%2==1)=m.testBit b:=by
 rw [Nat.testBit_eq_decide_div_mod_eq]
 rfl
theorem zi8 {m b:Nat} :b∈bitL m↔b<32/\m.testBit b=true:=by
 unfold bitL
 rw [List.mem_filter,List.mem_range,zqb]
theorem znS (m:Nat):(bitL m).Nodup:=List.Nodup.sublist List.filter_sublist List.nodup_range
def benN (c:ChD):Nat->Nat->Nat
 | 0,_=>0
 | i+1,j=>if (mask c i).testBit j then benN c i j||| 2^i else benN c i j
theorem zil {c:ChD} : ∀ {i:Nat} (j:Nat),i<=32->benN c i j<4294967296
 | 0,_,_=>by show 0<4294967296; decide
 | i+1,j,h=>by
   have ih:=zil (c:=c) (i:=i) j (by omega)
   have h2:=zdF i (by omega)
   unfold benN
   split
   ·exact Nat.or_lt_two_pow (n:=32) ih h2
   ·exact ih
def bnTo (c:ChD) (i:Nat):List Nat:=(List.range c.states.length).map (benN c i)
def zgm (c:ChD) (i m:Nat):List Nat:=(List.range c.states.length).map fun(j:Nat)=>if j∈(bitL (mask c i)).take m then benN c i j||| 2^i else benN c i j
theorem zff (c:ChD) (i m:Nat):(zgm c i m).length=c.states.length:=by simp [zgm]
theorem znR (c:ChD) (i:Nat):zgm c i 0=bnTo c i:=by
 unfold zgm bnTo
 apply List.map_congr_left
 intro j _
 simp
theorem zqa {c:ChD} (h:c.states.length<=32) (i:Nat):zgm c i (bitL (mask c i)).length=bnTo c (i+1):=by
 unfold zgm bnTo
 apply List.map_congr_left
 intro j hj
 have hj:=List.mem_range.1 hj
 rw [List.take_length]
 show _=if (mask c i).testBit j then benN c i j||| 2^i else benN c i j
 by_cases hb:(mask c i).testBit j=true
 ·rw [if_pos (zi8.2 ⟨by omega,hb⟩),if_pos hb]
 ·rw [if_neg (fun hm=>hb (zi8.1 hm).2),if_neg hb]
theorem zry {c:ChD} {i m k:Nat} (hk:(bitL (mask c i))[m]? =some k) (hn:k<c.states.length):(zgm c i m)[k]? =some (benN c i k):=by
 unfold zgm
 rw [List.getElem?_map,List.getElem?_range hn]
 simp only [Option.map_some,Option.some.injEq]
 rw [if_neg]
 intro hm
 obtain⟨q,hq⟩:=List.mem_iff_getElem?.1 hm
 rw [List.getElem?_take] at hq
 split at hq
 ·rename_i hlt
  obtain⟨h1,h2⟩:=List.getElem?_eq_some_iff.1 hk
  obtain⟨h3,h4⟩:=List.getElem?_eq_some_iff.1 hq
  exact(List.pairwise_iff_getElem.1 (znS (mask c i))) q m h3 h1 hlt (h4.trans h2.symm)
 ·cases hq
theorem zp9 {c:ChD} {i m k:Nat} (hk:(bitL (mask c i))[m]? =some k) (hn:k<c.states.length):(zgm c i m).set k (benN c i k||| 2^i)=zgm c i (m+1):=by
 apply List.ext_getElem?
 intro j
 rw [List.getElem?_set,zff]
 by_cases hj:j<c.states.length
 ·unfold zgm
  rw [List.getElem?_map,List.getElem?_range hj,List.getElem?_map,List.getElem?_range hj,List.take_add_one,hk]
  simp only [Option.map_some,Option.toList_some,List.mem_append,List.mem_singleton]
  by_cases e:k=j
  ·subst e
   simp [hn]
  ·rw [if_neg e]
   simp [Ne.symm e]
 ·rw [List.getElem?_eq_none (by rw [zff]; omega),List.getElem?_eq_none (by rw [zff]; omega)]
  by_cases e:k=j
  ·omega
  ·rw [if_neg e]
theorem zp8 (c:ChD):(bnTo c 0).map umAV=List.replicate c.states.length [.lit (.int .u32 0)]:=by
 rw [<-zjM]
 unfold bnTo mkTo
 congr 1
theorem znT {c:ChD} (h:Right c) {i m k:Nat} (hk:(bitL (mask c i))[m]? =some k):k<i:=by
 have:=(zi8.1 (List.mem_of_getElem? hk)).2
 rw [ziR h,decide_eq_true_eq] at this
 have:=zgG h 40 _ _ this
 omega
theorem zlU {c:ChD} (h:Right c):(walkL c (-1)).length<=c.states.length:=by
 have:=(zhL h 40 (-1) (by omega) (by have:=h.few; omega)).length_le_of_subset (l₂:=List.range c.states.length) fun m hm=>List.mem_range.2 ((zlT h m).1 hm)
 simpa using this
def zl5 (c:ChD):List Nat:=rankAll (walkL c (-1)) 0 (List.replicate c.states.length 0)
def zaw (c:ChD):AV:= .ref 7 [[.seq 1 (c.states.map fun s=>[I s.parent]), .seq 1 (c.states.map fun s=>[I s.kind]), .seq 1 ((mkTo c c.states.length).map umAV), .seq 1 ((bnTo c c.states.length).map umAV), .seq 1 ((zl5 c).map zaj), .seq 1 ((walkL c (-1)).map zaj), .lit (.int .u32 (zbu c c.states.length))]] 0 0
end

end Go.Proofs.YtnbjaghjdeicmaaGreatDoor