/- The law TableStays. -/
import Derived.Test.YtlmekdfleciejaaGreatDoorD10
import Derived.Test.YtlmekdfleciejaaGreatDoorD15
import Derived.Test.YtlmekdfleciejaaGreatDoorD17
import Derived.Test.YtlmekdfleciejaaGreatDoorD27
import Derived.Test.YtlmekdfleciejaaGreatDoorD28
import Derived.Test.YtlmekdfleciejaaGreatDoorD33
import Derived.Test.YtlmekdfleciejaaGreatDoorD34
import Derived.Test.YtlmekdfleciejaaGreatDoorD41
import Derived.Test.YtlmekdfleciejaaGreatDoorD44
import Derived.Test.YtlmekdfleciejaaGreatDoorD36
import Derived.Test.YtlmekdfleciejaaGreatDoorD7
import Derived.Test.YtlmekdfleciejaaGreatDoorD11
set_option maxRecDepth 100000
set_option maxHeartbeats 16000000
set_option linter.unusedSimpArgs false
namespace Go.Proofs.YtlmekdfleciejaaGreatDoor
section
theorem take_same {α:Type} {a b:List α} {i:Nat} {x y:α} (h:a.take i=b.take i) (hx:a[i]? =some x) (hy:b[i]? =some y) (e:x=y):a.take (i+1)=b.take (i+1):=by
 obtain⟨h1,h2⟩:=List.getElem?_eq_some_iff.1 hx
 obtain⟨h3,h4⟩:=List.getElem?_eq_some_iff.1 hy
 rw [List.take_succ_eq_append_getElem h1,List.take_succ_eq_append_getElem h3,h,h2,h4,e]
theorem unlike_at {α:Type} [DecidableEq α] {a b:List α} {i:Nat} {x y:α} (hx:a[i]? =some x) (hy:b[i]? =some y) (e:x≠y):(a==b)=false:=by
 rw [beq_eq_false_iff_ne]
 intro h
 rw [h,hy] at hx
 exact e (Option.some.inj hx).symm
theorem same_all {α:Type} [DecidableEq α] {a b:List α} {i:Nat} (h:a.take i=b.take i) (ha:a.length<=i) (hb:b.length<=i):(a==b)=true:=by
 rw [List.take_of_length_le ha,List.take_of_length_le hb] at h
 simpa using h
theorem unlike_len {α:Type} [DecidableEq α] {a b:List α} (h:a.length≠b.length):(a==b)=false:=by
 rw [beq_eq_false_iff_ne]
 intro e
 exact h (by rw [e])
theorem ibne {a b:Nat} (h:a≠b):((a:Int)==(b:Int))=false:=by simp; omega
theorem act_eq (a b:ActD):(a==b)=((a.kind==b.kind)&&(a.n==b.n)&&(a.name==b.name)&&(a.code==b.code)):=by
 rw [Bool.eq_iff_iff]
 obtain⟨k,n,m,c⟩:=a
 obtain⟨k',n',m',c'⟩:=b
 simp [and_assoc]
theorem op_eq (a b:OpD):(a==b)=((a.kind==b.kind)&&(a.n==b.n)):=by
 rw [Bool.eq_iff_iff]
 obtain⟨k,n⟩:=a
 obtain⟨k',n'⟩:=b
 simp
theorem var_eq (a b:VarD):(a==b)=((a.name==b.name)&&(a.start==b.start)):=by
 rw [Bool.eq_iff_iff]
 obtain⟨k,n⟩:=a
 obtain⟨k',n'⟩:=b
 simp
theorem st_eq (a b:StD):(a==b)=((a.name==b.name)&&(a.kind==b.kind)&&(a.parent==b.parent)&&(a.initial==b.initial)&&(a.inn==b.inn)&&(a.out==b.out)):=by
 rw [Bool.eq_iff_iff]
 obtain⟨a1,a2,a3,a4,a5,a6⟩:=a
 obtain⟨b1,b2,b3,b4,b5,b6⟩:=b
 simp [and_assoc]
theorem tr_eq (a b:TrD):(a==b)=((a.src==b.src)&&(a.event==b.event)&&(a.target==b.target)&&(a.guard==b.guard)&&(a.acts==b.acts)):=by
 rw [Bool.eq_iff_iff]
 obtain⟨a1,a2,a3,a4,a5⟩:=a
 obtain⟨b1,b2,b3,b4,b5⟩:=b
 simp
 constructor
 ·rintro⟨h1,h2,h3,h4,h5⟩; exact⟨⟨⟨⟨h1,h2⟩,h5⟩,h3⟩,h4⟩
 ·rintro⟨⟨⟨⟨h1,h2⟩,h5⟩,h3⟩,h4⟩; exact⟨h1,h2,h3,h4,h5⟩
theorem ch_eq (a b:ChD):(a==b)=((a.name==b.name)&&(a.initial==b.initial)&&(a.vars==b.vars)&&(a.states==b.states)&&(a.trans==b.trans)):=by
 rw [Bool.eq_iff_iff]
 obtain⟨a1,a2,a3,a4,a5⟩:=a
 obtain⟨b1,b2,b3,b4,b5⟩:=b
 simp [and_assoc]
end
section
open Go.RowKit
/-! The way up -/
/-! What is above a state, as bits -/
/-! The walk -/
/-! Sorting by the walk -/
theorem sort_mem {c:ChD} (h:Right c) {l:List Int} (hl:l.all (inZ c)=true) {k:Nat} :k∈sortL c l↔(k:Int)∈l:=by
 unfold sortL
 rw [if_pos hl,List.mem_filter,zkL h]
 simp only [List.contains_iff_mem]
 refine⟨fun h=>h.2,fun hk=>⟨zaM.1 (List.all_eq_true.1 hl _ hk),hk⟩⟩
theorem sort_nodup {c:ChD} (h:Right c) (l:List Int):(sortL c l).Nodup:=by
 unfold sortL
 split
 ·exact List.Nodup.sublist List.filter_sublist (zeF h 40 (-1) (by omega) (by have:=h.few; omega))
 ·simp
end
section
open Go.RowKit
/-! What begins with a state -/
theorem bg_in {c:ChD} (h:Full c): ∀(n i m:Nat),i<c.states.length->c.states.length<=i+n->m∈bgL c i->i<=m/\m<c.states.length
 | 0,i,m,hi,hn,_=>by omega
 | n+1,i,m,hi,hn,hm=>by
   obtain⟨s,hs⟩: ∃s,c.states[i]? =some s:=⟨c.states[i],List.getElem?_eq_getElem hi⟩
   rw [zqe h hs,List.mem_cons,List.mem_flatMap] at hm
   rcases hm with rfl | ⟨k,hk,hm⟩
   ·exact⟨Nat.le_refl _,hi⟩
   ·have hg:=za0 h.toRight (zaO hk).1
    split at hm
    ·have:=bg_in h n k m (by omega) (by omega) hm
     omega
    ·simp at hm
theorem bg_all {c:ChD} (h:Full c) {i:Nat} (hi:i<c.states.length):(zL (bgL c i)).all (inZ c)=true:=by
 have hf:=h.few
 rw [List.all_eq_true]
 intro x hx
 obtain⟨k,hk,rfl⟩:=List.mem_map.1 hx
 exact zaM.2 (bg_in h 40 i k hi (by omega) hk).2
theorem sb_mem {c:ChD} (h:Full c) {i:Nat} (hi:i<c.states.length) {k:Nat} :k∈sbL c i↔k∈bgL c i:=by
 unfold sbL
 rw [sort_mem h.toRight (bg_all h hi),List.mem_map]
 constructor
 ·rintro⟨j,hj,e⟩
  have:j=k:=by omega
  exact this ▸ hj
 ·exact fun hk=>⟨k,hk,rfl⟩
theorem sb_alone {c:ChD} (h:Full c) {i:Nat} {s:StD} (hs:c.states[i]? =some s) (hm:zat s=true):sbL c i=[i]:=by
 have hi:=(List.getElem?_eq_some_iff.1 hs).1
 have hb:bgL c i=[i]:=by
  rw [zqe h hs]
  unfold zat at hm
  simp only [Bool.or_eq_true,beq_iff_eq] at hm
  rcases h.cases hs with⟨e,_⟩ | ⟨e,_⟩ | ⟨e,_⟩ | ⟨e,e1,_⟩
  ·omega
  ·omega
  ·omega
  ·rw [zeR e1]; rfl
 have hn:=sort_nodup h.toRight (zL (bgL c i))
 have hmem: ∀k,k∈sbL c i↔k=i:=fun k=>by rw [sb_mem h hi,hb,List.mem_singleton]
 have hn:(sbL c i).Nodup:=hn
 generalize sbL c i=l at hn hmem
 match l,hn,hmem with
 | [],_,hmem=>have:=(hmem i).2 rfl; simp at this
 | [a],_,hmem=>rw [(hmem a).1 (by simp)]
 | a::b::l,hn,hmem=>
   have h1:=(hmem a).1 (by simp)
   have h2:=(hmem b).1 (by simp)
   rw [h1,h2] at hn
   simp at hn
end
section
open Go.RowKit
theorem rSameOps_con (env:Env) (a b:List OpD) (hn:a.length<=9223372036854775807):Con Tryz.prog env 75 [opsAV a,opsAV b] (B (a==b)):=by
 refine zaa Tryz.func75 rfl Tryz.call75 (by rw [Tryz.ntmps75]; simp) ?_
 rw [Tryz.ntmps75,Tryz.results75]
 by_cases hl:a.length=b.length
 case neg=>
  have k0:=ibne hl
  rw [unlike_len hl]
  have F:=ai k0<|bneA
  repeat refine st ?_
  exact aR
 have k0:((a.length:Int)==(b.length:Int))=true:=by rw [hl]; simp
 have F:=ai k0<|bneA
 repeat refine st ?_
 refine zab (D:=Nat) (fun i _=>[(0,opsAV a),(1,opsAV b),(5,I i)]) (fun _ _=>[]) (fun i _ _=>i<=a.length/\a.take i=b.take i) (fun i=>a.length-i) 0 ?_ ?_ ?_ ?_
 ·exact⟨Nat.zero_le _,rfl⟩
 ·(simp only [go_sem,F])
 ·(simp only [go_sem,F])
 rintro i ws esc ⟨hi,ht⟩
 by_cases hlt:i<a.length
 ·obtain⟨x,hx,_⟩:=zam hlt
  obtain⟨y,hy,_⟩:=zam (show i<b.length by omega)
  have k1:=nlt hlt
  have k3:=nlt (show i<b.length by omega)
  have k2:=zac hlt hn
  cases e:(x==y)
  ·rw [unlike_at hx hy (by simpa using e)]
   have e2:(x.kind==y.kind&&x.n==y.n)=false:=by rw [<-op_eq x y]; exact e
   have F:=ai k1<|ai k2<|ai k3<|ai hx<|ai hy<|ai opAV.eq_1<|ai e2<|bneA
   repeat refine st ?_
   exact aR
  ·have e2:(x.kind==y.kind&&x.n==y.n)=true:=by rw [<-op_eq x y]; exact e
   have F:=ai k1<|ai k2<|ai k3<|ai hx<|ai hy<|ai opAV.eq_1<|ai e2<|bneA
   repeat refine st ?_
   refine⟨i+1,⟨hlt,take_same ht hx hy (by simpa using e)⟩, ?_, ?_, ?_⟩
   ·(simp only [go_sem,F])
   ·(simp only [go_sem,F])
   ·omega
 ·have k1: ¬(i:Int)< (a.length:Int):=by omega
  rw [same_all ht (by omega) (by omega)]
  have F:=k1
  repeat refine st ?_
  exact aR
end
section
open Go.RowKit
theorem rSameActs_con (env:Env) (a b:List ActD) (hn:a.length<=9223372036854775807) (hf: ∀x∈a,zdr x):Con Tryz.prog env 76 [actsAV a,actsAV b] (B (a==b)):=by
 refine zaa Tryz.func76 rfl Tryz.call76 (by rw [Tryz.ntmps76]; simp) ?_
 rw [Tryz.ntmps76,Tryz.results76]
 by_cases hl:a.length=b.length
 case neg=>
  have k0:=ibne hl
  rw [unlike_len hl]
  have F:=ai k0<|bneA
  repeat refine st ?_
  exact aR
 have k0:((a.length:Int)==(b.length:Int))=true:=by rw [hl]; simp
 have F:=ai k0<|bneA
 repeat refine st ?_
 refine zab (D:=Nat) (fun i _=>[(0,actsAV a),(1,actsAV b),(5,I i)]) (fun _ _=>[]) (fun i _ _=>i<=a.length/\a.take i=b.take i) (fun i=>a.length-i) 0 ?_ ?_ ?_ ?_
 ·exact⟨Nat.zero_le _,rfl⟩
 ·(simp only [go_sem,F])
 ·(simp only [go_sem,F])
 rintro i ws esc ⟨hi,ht⟩
 by_cases hlt:i<a.length
 ·obtain⟨x,hx,hxm⟩:=zam hlt
  obtain⟨y,hy,hym⟩:=zam (show i<b.length by omega)
  have k1:=nlt hlt
  have k3:=nlt (show i<b.length by omega)
  have k2:=zac hlt hn
  have hc:=rSameOps_con env x.code y.code (by have:=(hf x hxm).2.1; unfold maxLen at this; omega)
  have hno:(x==y)=false->(a==b)=false:=fun h=>unlike_at hx hy (by simpa using h)
  have hyes:(x==y)=true->a.take (i+1)=b.take (i+1):=fun h=>take_same ht hx hy (by simpa using h)
  cases e0:(x.kind==y.kind)
  ·rw [hno (by rw [act_eq x y]; simp [e0])]
   have F:=ai k1<|ai k2<|ai k3<|ai hx<|ai hy<|ai zaw.eq_1<|ai e0<|bneA
   repeat (first | refine st ?_ | refine cC hc ?_)
   exact aR
  cases e1:(x.n==y.n)
  ·rw [hno (by rw [act_eq x y]; simp [e0,e1])]
   have F:=ai k1<|ai k2<|ai k3<|ai hx<|ai hy<|ai zaw.eq_1<|ai e0<|ai e1<|bneA
   repeat (first | refine st ?_ | refine cC hc ?_)
   exact aR
  cases e2:(x.name==y.name)
  ·rw [hno (by rw [act_eq x y]; simp [e0,e1,e2])]
   have F:=ai k1<|ai k2<|ai k3<|ai hx<|ai hy<|ai zaw.eq_1<|ai e0<|ai e1<|ai e2<|bneA
   repeat (first | refine st ?_ | refine cC hc ?_)
   exact aR
  cases e3:(x.code==y.code)
  ·rw [hno (by rw [act_eq x y]; simp [e0,e1,e2,e3])]
   have F:=ai k1<|ai k2<|ai k3<|ai hx<|ai hy<|ai zaw.eq_1<|ai e0<|ai e1<|ai e2<|ai e3<|bneA
   repeat (first | refine st ?_ | refine cC hc ?_)
   exact aR
  have F:=ai k1<|ai k2<|ai k3<|ai hx<|ai hy<|ai zaw.eq_1<|ai e0<|ai e1<|ai e2<|ai e3<|bneA
  repeat (first | refine st ?_ | refine cC hc ?_)
  refine⟨i+1,⟨hlt,hyes (by rw [act_eq x y]; simp [e0,e1,e2,e3])⟩, ?_, ?_, ?_⟩
  ·(simp only [go_sem,F])
  ·(simp only [go_sem,F])
  ·omega
 ·have k1: ¬(i:Int)< (a.length:Int):=by omega
  rw [same_all ht (by omega) (by omega)]
  have F:=k1
  repeat refine st ?_
  exact aR
theorem rSameStates_con (env:Env) (a b:List StD) (hn:a.length<=9223372036854775807) (hf: ∀x∈a,zji x):Con Tryz.prog env 74 [stsAV a,stsAV b] (B (a==b)):=by
 refine zaa Tryz.func74 rfl Tryz.call74 (by rw [Tryz.ntmps74]; simp) ?_
 rw [Tryz.ntmps74,Tryz.results74]
 by_cases hl:a.length=b.length
 case neg=>
  have k0:=ibne hl
  rw [unlike_len hl]
  have F:=ai k0<|bneA
  repeat refine st ?_
  exact aR
 have k0:((a.length:Int)==(b.length:Int))=true:=by rw [hl]; simp
 have F:=ai k0<|bneA
 repeat refine st ?_
 refine zab (D:=Nat) (fun i _=>[(0,stsAV a),(1,stsAV b),(5,I i)]) (fun _ _=>[]) (fun i _ _=>i<=a.length/\a.take i=b.take i) (fun i=>a.length-i) 0 ?_ ?_ ?_ ?_
 ·exact⟨Nat.zero_le _,rfl⟩
 ·(simp only [go_sem,F])
 ·(simp only [go_sem,F])
 rintro i ws esc ⟨hi,ht⟩
 by_cases hlt:i<a.length
 ·obtain⟨x,hx,hxm⟩:=zam hlt
  obtain⟨y,hy,hym⟩:=zam (show i<b.length by omega)
  have k1:=nlt hlt
  have k3:=nlt (show i<b.length by omega)
  have k2:=zac hlt hn
  have h1:=rSameActs_con env x.inn y.inn (by have:=(hf x hxm).2.1.1; unfold maxLen at this; omega) (hf x hxm).2.1.2
  have h2:=rSameActs_con env x.out y.out (by have:=(hf x hxm).2.2.1; unfold maxLen at this; omega) (hf x hxm).2.2.2
  have hno:(x==y)=false->(a==b)=false:=fun h=>unlike_at hx hy (by simpa using h)
  have hyes:(x==y)=true->a.take (i+1)=b.take (i+1):=fun h=>take_same ht hx hy (by simpa using h)
  cases e0:(x.name==y.name)
  ·rw [hno (by rw [st_eq x y]; simp [e0])]
   have F:=ai k1<|ai k2<|ai k3<|ai hx<|ai hy<|ai stAV.eq_1<|ai e0<|bneA
   repeat (first | refine st ?_ | refine cC h1 ?_ | refine cC h2 ?_)
   exact aR
  cases e1:(x.kind==y.kind)
  ·rw [hno (by rw [st_eq x y]; simp [e0,e1])]
   have F:=ai k1<|ai k2<|ai k3<|ai hx<|ai hy<|ai stAV.eq_1<|ai e0<|ai e1<|bneA
   repeat (first | refine st ?_ | refine cC h1 ?_ | refine cC h2 ?_)
   exact aR
  cases e2:(x.parent==y.parent)
  ·rw [hno (by rw [st_eq x y]; simp [e0,e1,e2])]
   have F:=ai k1<|ai k2<|ai k3<|ai hx<|ai hy<|ai stAV.eq_1<|ai e0<|ai e1<|ai e2<|bneA
   repeat (first | refine st ?_ | refine cC h1 ?_ | refine cC h2 ?_)
   exact aR
  cases e3:(x.initial==y.initial)
  ·rw [hno (by rw [st_eq x y]; simp [e0,e1,e2,e3])]
   have F:=ai k1<|ai k2<|ai k3<|ai hx<|ai hy<|ai stAV.eq_1<|ai e0<|ai e1<|ai e2<|ai e3<|bneA
   repeat (first | refine st ?_ | refine cC h1 ?_ | refine cC h2 ?_)
   exact aR
  cases e4:(x.inn==y.inn)
  ·rw [hno (by rw [st_eq x y]; simp [e0,e1,e2,e3,e4])]
   have F:=ai k1<|ai k2<|ai k3<|ai hx<|ai hy<|ai stAV.eq_1<|ai e0<|ai e1<|ai e2<|ai e3<|ai e4<|bneA
   repeat (first | refine st ?_ | refine cC h1 ?_ | refine cC h2 ?_)
   exact aR
  cases e5:(x.out==y.out)
  ·rw [hno (by rw [st_eq x y]; simp [e0,e1,e2,e3,e4,e5])]
   have F:=ai k1<|ai k2<|ai k3<|ai hx<|ai hy<|ai stAV.eq_1<|ai e0<|ai e1<|ai e2<|ai e3<|ai e4<|ai e5<|bneA
   repeat (first | refine st ?_ | refine cC h1 ?_ | refine cC h2 ?_)
   exact aR
  have F:=ai k1<|ai k2<|ai k3<|ai hx<|ai hy<|ai stAV.eq_1<|ai e0<|ai e1<|ai e2<|ai e3<|ai e4<|ai e5<|bneA
  repeat (first | refine st ?_ | refine cC h1 ?_ | refine cC h2 ?_)
  refine⟨i+1,⟨hlt,hyes (by rw [st_eq x y]; simp [e0,e1,e2,e3,e4,e5])⟩, ?_, ?_, ?_⟩
  ·(simp only [go_sem,F])
  ·(simp only [go_sem,F])
  ·omega
 ·have k1: ¬(i:Int)< (a.length:Int):=by omega
  rw [same_all ht (by omega) (by omega)]
  have F:=k1
  repeat refine st ?_
  exact aR
theorem rSame_con (env:Env) (a b:ChD) (hf:zdq a):Con Tryz.prog env 20 [.agg (chAV a), .agg (chAV b)] (B (a==b)):=by
 have h1:=rSameStates_con env a.states b.states (by have:=hf.2.2.1.1; unfold maxLen at this; omega) hf.2.2.1.2
 have nv:a.vars.length<=9223372036854775807:=by have:=hf.2.1.1; unfold maxLen at this; omega
 have nt:a.trans.length<=9223372036854775807:=by have:=hf.2.2.2.1; unfold maxLen at this; omega
 rw [ch_eq]
 refine zaa Tryz.func20 rfl Tryz.call20 (by rw [Tryz.ntmps20]; simp) ?_
 rw [Tryz.ntmps20,Tryz.results20]
 cases e0:(a.name==b.name)
 ·have F:=ai chAV.eq_1<|ai e0<|bneA
  repeat (first | refine st ?_ | refine cC h1 ?_)
  exact aR
 cases e1:(a.initial==b.initial)
 ·have F:=ai chAV.eq_1<|ai e0<|ai e1<|bneA
  repeat (first | refine st ?_ | refine cC h1 ?_)
  exact aR
 by_cases lv:a.vars.length=b.vars.length
 case neg=>
  have k0:=ibne lv
  rw [unlike_len lv]
  have F:=ai chAV.eq_1<|ai e0<|ai e1<|ai k0<|bneA
  repeat (first | refine st ?_ | refine cC h1 ?_)
  exact aR
 have k0:((a.vars.length:Int)==(b.vars.length:Int))=true:=by rw [lv]; simp
 by_cases lt:a.trans.length=b.trans.length
 case neg=>
  have k5:=ibne lt
  rw [unlike_len lt,Bool.and_false]
  have F:=ai chAV.eq_1<|ai e0<|ai e1<|ai k0<|ai k5<|bneA
  repeat (first | refine st ?_ | refine cC h1 ?_)
  exact aR
 have k5:((a.trans.length:Int)==(b.trans.length:Int))=true:=by rw [lt]; simp
 cases e2:(a.states==b.states)
 ·rw [Bool.and_false,Bool.false_and]
  have F:=ai chAV.eq_1<|ai e0<|ai e1<|ai k0<|ai k5<|ai e2<|bneA
  repeat (first | refine st ?_ | refine cC h1 ?_)
  exact aR
 have F:=ai chAV.eq_1<|ai e0<|ai e1<|ai k0<|ai k5<|ai e2<|bneA
 repeat (first | refine st ?_ | refine cC h1 ?_)
 refine zab (D:=Nat) (fun i vs=>[(2, .loc 2 (vs 2) 0 0),(3, .loc 3 (vs 3) 0 0),(5,I i)]) (fun _ _=>[(2,⟨5,[chAV a],26,false⟩),(3,⟨5,[chAV b],26,false⟩)]) (fun i _ _=>i<=a.vars.length/\a.vars.take i=b.vars.take i) (fun i=>a.vars.length-i) 0 ?_ ?_ ?_ ?_
 ·exact⟨Nat.zero_le _,rfl⟩
 ·(simp only [go_sem,F])
 ·(simp only [go_sem,F])
 rintro i ws esc ⟨hi,ht⟩
 by_cases hlt:i<a.vars.length
 ·obtain⟨x,hx,hxm⟩:=zam hlt
  obtain⟨y,hy,hym⟩:=zam (show i<b.vars.length by omega)
  have k1:=nlt hlt
  have k3:=nlt (show i<b.vars.length by omega)
  have k2:=zac hlt nv
  cases e:(x==y)
  ·rw [unlike_at hx hy (by simpa using e)]
   have e3:(x.name==y.name&&x.start==y.start)=false:=by rw [<-var_eq x y]; exact e
   have F:=ai chAV.eq_1<|ai k1<|ai k2<|ai k3<|ai hx<|ai hy<|ai zcp.eq_1<|ai e3<|bneA
   repeat refine st ?_
   exact aR
  ·have e3:(x.name==y.name&&x.start==y.start)=true:=by rw [<-var_eq x y]; exact e
   have F:=ai chAV.eq_1<|ai k1<|ai k2<|ai k3<|ai hx<|ai hy<|ai zcp.eq_1<|ai e3<|bneA
   repeat refine st ?_
   refine⟨i+1,⟨hlt,take_same ht hx hy (by simpa using e)⟩, ?_, ?_, ?_⟩
   ·(simp only [go_sem,F])
   ·(simp only [go_sem,F])
   ·omega
 have k1: ¬(i:Int)< (a.vars.length:Int):=by omega
 have ev:=same_all ht (by omega) (by omega)
 rw [ev]
 have F:=ai chAV.eq_1<|k1
 repeat refine st ?_
 refine zab (D:=Nat) (fun i vs=>[(2, .loc 2 (vs 2) 0 0),(3, .loc 3 (vs 3) 0 0),(6,I i)]) (fun _ _=>[(2,⟨5,[chAV a],26,false⟩),(3,⟨5,[chAV b],26,false⟩)]) (fun i _ _=>i<=a.trans.length/\a.trans.take i=b.trans.take i) (fun i=>a.trans.length-i) 0 ?_ ?_ ?_ ?_
 ·exact⟨Nat.zero_le _,rfl⟩
 ·(simp only [go_sem,F])
 ·(simp only [go_sem,F])
 rintro i ws' esc' ⟨hi,ht⟩
 by_cases hlt:i<a.trans.length
 ·obtain⟨x,hx,hxm⟩:=zam hlt
  obtain⟨y,hy,hym⟩:=zam (show i<b.trans.length by omega)
  have k1:=nlt hlt
  have k3:=nlt (show i<b.trans.length by omega)
  have k2:=zac hlt nt
  have fx:=hf.2.2.2.2 x hxm
  have g1:=rSameOps_con env x.guard y.guard (by have:=fx.2.1.1; unfold maxLen at this; omega)
  have g2:=rSameActs_con env x.acts y.acts (by have:=fx.2.2.1; unfold maxLen at this; omega) fx.2.2.2
  have hno:(x==y)=false->(a.trans==b.trans)=false:=fun h=>unlike_at hx hy (by simpa using h)
  have hyes:(x==y)=true->a.trans.take (i+1)=b.trans.take (i+1):=fun h=>take_same ht hx hy (by simpa using h)
  cases e0:(x.src==y.src)
  ·rw [hno (by rw [tr_eq x y]; simp [e0])]
   have F:=ai chAV.eq_1<|ai k1<|ai k2<|ai k3<|ai hx<|ai hy<|ai trAV.eq_1<|ai e0<|bneA
   repeat (first | refine st ?_ | refine cC g1 ?_ | refine cC g2 ?_)
   exact aR
  cases e1:(x.event==y.event)
  ·rw [hno (by rw [tr_eq x y]; simp [e0,e1])]
   have F:=ai chAV.eq_1<|ai k1<|ai k2<|ai k3<|ai hx<|ai hy<|ai trAV.eq_1<|ai e0<|ai e1<|bneA
   repeat (first | refine st ?_ | refine cC g1 ?_ | refine cC g2 ?_)
   exact aR
  cases e2:(x.target==y.target)
  ·rw [hno (by rw [tr_eq x y]; simp [e0,e1,e2])]
   have F:=ai chAV.eq_1<|ai k1<|ai k2<|ai k3<|ai hx<|ai hy<|ai trAV.eq_1<|ai e0<|ai e1<|ai e2<|bneA
   repeat (first | refine st ?_ | refine cC g1 ?_ | refine cC g2 ?_)
   exact aR
  cases e3:(x.guard==y.guard)
  ·rw [hno (by rw [tr_eq x y]; simp [e0,e1,e2,e3])]
   have F:=ai chAV.eq_1<|ai k1<|ai k2<|ai k3<|ai hx<|ai hy<|ai trAV.eq_1<|ai e0<|ai e1<|ai e2<|ai e3<|bneA
   repeat (first | refine st ?_ | refine cC g1 ?_ | refine cC g2 ?_)
   exact aR
  cases e4:(x.acts==y.acts)
  ·rw [hno (by rw [tr_eq x y]; simp [e0,e1,e2,e3,e4])]
   have F:=ai chAV.eq_1<|ai k1<|ai k2<|ai k3<|ai hx<|ai hy<|ai trAV.eq_1<|ai e0<|ai e1<|ai e2<|ai e3<|ai e4<|bneA
   repeat (first | refine st ?_ | refine cC g1 ?_ | refine cC g2 ?_)
   exact aR
  have F:=ai chAV.eq_1<|ai k1<|ai k2<|ai k3<|ai hx<|ai hy<|ai trAV.eq_1<|ai e0<|ai e1<|ai e2<|ai e3<|ai e4<|bneA
  repeat (first | refine st ?_ | refine cC g1 ?_ | refine cC g2 ?_)
  refine⟨i+1,⟨hlt,hyes (by rw [tr_eq x y]; simp [e0,e1,e2,e3,e4])⟩, ?_, ?_, ?_⟩
  ·(simp only [go_sem,F])
  ·(simp only [go_sem,F])
  ·omega
 have k1: ¬(i:Int)< (a.trans.length:Int):=by omega
 rw [same_all ht (by omega) (by omega)]
 have F:=ai chAV.eq_1<|k1
 repeat refine st ?_
 exact aR
end
section
open Go.RowKit
/-! Texts in the order of bytes -/
theorem sortB_mem {l:List Str8} {x:Str8} :x∈zda l↔x∈l:=List.mem_mergeSort
theorem ev_mem {c:ChD} {s:Str8} :s∈evL c↔s≠[]/\ ∃t∈c.trans,t.event=s:=by
 unfold evL Lib.compact
 rw [(zjA _ (zo5 _) _ (Nat.le_refl _)).2,List.take_length,sortB_mem]
 unfold zaZ
 rw [List.take_length,List.mem_filter,List.mem_map]
 constructor
 ·rintro⟨⟨t,h1,h2⟩,h3⟩
  exact⟨by simpa using h3,t,h1,h2⟩
 ·rintro⟨h,t,h1,h2⟩
  exact⟨⟨t,h1,h2⟩,by simpa using h⟩
/-! Where a text stands, or would stand -/
theorem pos_at {l:List Str8} (h:l.Pairwise SL) {x:Str8} (hx:x∈l):l[posL l x]? =some x:=by
 obtain⟨h1,h2⟩:=znl h x
 obtain⟨k,hk⟩:=List.mem_iff_getElem?.1 hx
 have h3:=(h2 k x hk)
 rw [zjH] at h3
 have h3: ¬k<posL l x:=fun e=>by simpa using h3.2 e
 have hkl:=(List.getElem?_eq_some_iff.1 hk).1
 by_cases e:k=posL l x
 ·rw [<-e]; exact hk
 ·have hp:posL l x<l.length:=by omega
  have h4:=List.pairwise_iff_getElem.1 h (posL l x) k hp hkl (by omega)
  rw [(List.getElem?_eq_some_iff.1 hk).2] at h4
  have:=(h2 _ _ (List.getElem?_eq_getElem hp)).1 h4
  omega
theorem evI_in {c:ChD} {s:Str8} (h:s∈evL c): ∃k:Nat,evI c s=k/\(evL c)[k]? =some s:=⟨posL (evL c) s,by unfold evI; rw [if_pos (pos_at (zqx c) h)],pos_at (zqx c) h⟩
theorem evI_out {c:ChD} {s:Str8} (h:s∉evL c):evI c s= -1:=by
 unfold evI
 rw [if_neg fun e=>h (List.mem_of_getElem? e)]
theorem evI_eq {c:ChD} {s t:Str8} (hs:s∈evL c) (ht:t∈evL c) (h:evI c s=evI c t):s=t:=by
 obtain⟨k,h1,h2⟩:=evI_in hs
 obtain⟨j,h3,h4⟩:=evI_in ht
 have:k=j:=by omega
 subst this
 exact Option.some.inj (h2.symm.trans h4)
theorem evI_nil (c:ChD):evI c []= -1:=evI_out fun h=>(ev_mem.1 h).1 rfl
/-! A state's transitions -/
def atL (c:ChD) (i e:Int):List Nat:=zed c c.trans.length (i,e)
theorem at_ref {c:ChD} (i:Int) (s:Str8) (h:s=[]\/s∈evL c):atL c i (evI c s)=(List.range c.trans.length).filter fun k=>match c.trans[k]? with | some t=>decide (t.src=i/\t.event=s) | none=>false:=by
 unfold atL zed
 apply List.filter_congr
 intro k hk
 have hk:=List.mem_range.1 hk
 have hs:c.trans[k]? =some c.trans[k]:=List.getElem?_eq_getElem hk
 unfold zbP
 rw [hs]
 simp only [Prod.mk.injEq]
 congr 1
 generalize ht:c.trans[k]=t at*
 have htm:t∈c.trans:=List.mem_of_getElem? hs
 apply propext
 refine and_congr_right fun _=>⟨fun e=> ?_,fun e=>by rw [e]⟩
 rcases h with rfl | h
 ·rw [evI_nil] at e
  by_cases hn:t.event=[]
  ·exact hn
  ·obtain⟨k,h1,_⟩:=evI_in (ev_mem.2 ⟨hn,t,htm,rfl⟩)
   omega
 ·obtain⟨k,h1,_⟩:=evI_in h
  by_cases hn:t.event=[]
  ·rw [hn,evI_nil] at e; omega
  ·exact evI_eq (ev_mem.2 ⟨hn,t,htm,rfl⟩) h e
end
section
open Go.RowKit
/-! What is active at first -/
def iniN (c:ChD):Nat:=c.initial.toNat
theorem Full.topS {c:ChD} (h:Full c): ∃s,c.states[iniN c]? =some s/\c.initial=(iniN c:Nat)/\s.parent= -1/\(s.kind=1\/s.kind=2):=by
 have:=h.ini
 unfold topB at this
 cases ha:at_ c c.initial with
 | none=>rw [ha] at this; simp at this
 | some s=>
   rw [ha] at this
   unfold at_ at ha
   split at ha
   ·rename_i h0
    refine⟨s,ha,by unfold iniN; omega, ?_⟩
    simp only [zbV,Bool.and_eq_true,beq_iff_eq,Bool.or_eq_true] at this
    exact⟨this.1,this.2⟩
   ·cases ha
/-! What begins is few -/
theorem sb_len {c:ChD} (h:Full c) (i:Nat):(sbL c i).length<=32:=by
 have hf:=h.few
 have:=(sort_nodup h.toRight (zL (bgL c i))).length_le_of_subset (l₂:=List.range c.states.length) fun m hm=>by
  unfold sortL at hm
  split at hm
  ·exact List.mem_range.2 ((zkL h.toRight m).1 (List.mem_filter.1 hm).1)
  ·simp at hm
 unfold sbL
 simp at this
 omega
end
section
open Go.RowKit
theorem mfind_E (c:ChD) (a b:Int):mfind Tryz.prog 105 (.agg [I a,I b]) (zdS c) 0=some (idxP (a,b) (keysTo c c.trans.length) 0):=by
 have:zdS c=(keysTo c c.trans.length).mapIdx fun q k=>[.agg [I k.1,I k.2],((zdS c)[q]?.bind (·[1]?)).getD .any]:=by
  apply List.ext_getElem?
  intro q
  rw [List.getElem?_mapIdx]
  unfold zdS
  rw [List.getElem?_map]
  cases (keysTo c c.trans.length)[q]? with
  | none=>rfl
  | some p=>rfl
 rw [this]
 exact znC (a,b) _ _ 0
/-! The state at the head of the loop -/
/-! The map, frozen -/
end
section
open Go.RowKit
theorem cloneN_con (env:Env):Con Tryz.prog env 73 [nilS] (.own 3 1 []):=(ze0 env [] (by simp)).args (Strs.cons (Str.nil 1) Strs.nil)
theorem tabEvent_con (env:Env) (c:ChD) (hc:c.trans.length<=4096) (s:List UInt8):Con Tryz.prog env 29 [zai c,Sg s] (I (evI c s)):=zoj env c (by omega) _ _ s
def tatL (c:ChD) (i e:Int):List Nat:=if e<0 then [] else atL c i e
theorem atL_len (c:ChD) (i e:Int):(atL c i e).length<=c.trans.length:=zqk ..
theorem atL_some {c:ChD} {i e:Int} {q:Nat} (hq:idxP (i,e) (keysTo c c.trans.length) 0=some q):(zdS c)[q]? =some [.agg [I i,I e], .seq 1 ((atL c i e).map zae)]:=by
 have:=(zi0 hq).2
 unfold zdS
 rw [List.getElem?_map,Nat.sub_zero] at*
 rw [this]
 rfl
theorem tabAt_con (env:Env) (c:ChD) (hc:c.trans.length<=4096) (i e:Int):Con Tryz.prog env 32 [zai c,I i,I e] (.own 3 1 ((tatL c i e).map zae)):=by
 have hl:=atL_len c i e
 have hm:=mfind_E c i e
 unfold tatL
 by_cases h:e<0
 ·rw [if_pos h]
  refine zaj Tryz.func32 rfl Tryz.call32 (by rw [Tryz.ntmps32]; simp) ?_
  rw [Tryz.ntmps32,Tryz.results32]
  have F:=ai zai.eq_1<|ai tabCells.eq_1<|h
  repeat refine st ?_
  (refine zak ?_; refine⟨_,(by show (zaz _ _ _).run _=some _; simp only [go_sem,F]; rfl), ?_⟩)
  exact RStr.own_nil _ _ (by decide)
 ·rw [if_neg h]
  cases hq:idxP (i,e) (keysTo c c.trans.length) 0 with
  | none=>
    rw [hq] at hm
    have f0:=cloneN_con env
    rw [show atL c i e=[] from zo6 (zi1 hq)]
    refine zaa Tryz.func32 rfl Tryz.call32 (by rw [Tryz.ntmps32]; simp) ?_
    rw [Tryz.ntmps32,Tryz.results32]
    have F:=ai zai.eq_1<|ai tabCells.eq_1<|ai h<|hm
    repeat (first | refine st ?_ | refine cC f0 ?_)
    exact aR
  | some q=>
    rw [hq] at hm
    have hk:=atL_some hq
    have f0:=ze0 env ((atL c i e).map zae) (by rw [List.length_map]; omega)
    refine zaa Tryz.func32 rfl Tryz.call32 (by rw [Tryz.ntmps32]; simp) ?_
    rw [Tryz.ntmps32,Tryz.results32]
    have F:=ai zai.eq_1<|ai tabCells.eq_1<|ai h<|ai hm<|hk
    repeat (first | refine st ?_ | refine cC f0 ?_)
    exact aR
theorem tabAuto_con (env:Env) (c:ChD) (hc:c.trans.length<=4096) (i:Int):Con Tryz.prog env 19 [zai c,I i] (.own 3 1 ((atL c i (-1)).map zae)):=by
 have hl:=atL_len c i (-1)
 have hm:=mfind_E c i (-1)
 cases hq:idxP (i, -1) (keysTo c c.trans.length) 0 with
 | none=>
   rw [hq] at hm
   have f0:=cloneN_con env
   rw [show atL c i (-1)=[] from zo6 (zi1 hq)]
   refine zaa Tryz.func19 rfl Tryz.call19 (by rw [Tryz.ntmps19]; simp) ?_
   rw [Tryz.ntmps19,Tryz.results19]
   have F:=ai zai.eq_1<|ai tabCells.eq_1<|hm
   repeat (first | refine st ?_ | refine cC f0 ?_)
   exact aR
 | some q=>
   rw [hq] at hm
   have hk:=atL_some hq
   have f0:=ze0 env ((atL c i (-1)).map zae) (by rw [List.length_map]; omega)
   refine zaa Tryz.func19 rfl Tryz.call19 (by rw [Tryz.ntmps19]; simp) ?_
   rw [Tryz.ntmps19,Tryz.results19]
   have F:=ai zai.eq_1<|ai tabCells.eq_1<|ai hm<|hk
   repeat (first | refine st ?_ | refine cC f0 ?_)
   exact aR
def tbegL (c:ChD) (i:Int):List Nat:=if inZ c (if i= -1 then c.initial else i)=true then sbL c (if i= -1 then c.initial else i).toNat else []
theorem tabBegin_con (env:Env) (c:ChD) (h:Full c) (i:Int):Con Tryz.prog env 18 [zai c,I i] (.own 3 1 ((tbegL c i).map zae)):=by
 have hlen:=h.few
 unfold tbegL
 by_cases e:i= -1
 ·subst e
  simp only [if_true]
  obtain⟨s,hs,hini,_⟩:=h.topS
  have hi:=(List.getElem?_eq_some_iff.1 hs).1
  have f0:=zij env c c.initial
  have hz:inZ c c.initial=true:=by rw [hini]; exact zaM.2 hi
  rw [hz] at f0
  rw [hz,if_pos rfl]
  have f1:=ze0 env ((sbL c (iniN c)).map zae) (by rw [List.length_map]; have:=sb_len h (iniN c); omega)
  have hb:(begE c c.states.length)[iniN c]? =some [.seq 1 ((sbL c (iniN c)).map zae)]:=by unfold begE; rw [List.getElem?_map,List.getElem?_range hi]; rfl
  have hbl:(begE c c.states.length).length=c.states.length:=by simp [begE]
  have g0:((iniN c:Nat):Int)< (c.states.length:Int):=by omega
  rw [hini] at f0 |-
  rw [Int.toNat_natCast]
  unfold zai tabCells at f0 |-
  rw [hini] at f0 |-
  refine zaa Tryz.func18 rfl Tryz.call18 (by rw [Tryz.ntmps18]; simp) ?_
  rw [Tryz.ntmps18,Tryz.results18]
  have F:=ai hb<|ai hbl<|g0
  repeat (first | refine st ?_ | refine cC f0 ?_ | refine cC f1 ?_)
  exact aR
 ·rw [if_neg e]
  have e1:(i == -1)=false:=by simpa using e
  have f0:=zij env c i
  cases hz:inZ c i with
  | false=>
    rw [hz] at f0
    rw [if_neg (by simp)]
    unfold zai tabCells at f0 |-
    refine zaj Tryz.func18 rfl Tryz.call18 (by rw [Tryz.ntmps18]; simp) ?_
    rw [Tryz.ntmps18,Tryz.results18]
    have F:=e1
    repeat (first | refine st ?_ | refine cC f0 ?_)
    (refine zak ?_; refine⟨_,(by show (zaz _ _ _).run _=some _; simp only [go_sem,F]; rfl), ?_⟩)
    exact RStr.own_nil _ _ (by decide)
  | true=>
    obtain⟨k,s,rfl,hs,ha⟩:=zb0 hz
    have hi:=(List.getElem?_eq_some_iff.1 hs).1
    rw [hz] at f0
    rw [if_pos rfl,Int.toNat_natCast]
    have f1:=ze0 env ((sbL c k).map zae) (by rw [List.length_map]; have:=sb_len h k; omega)
    have hb:(begE c c.states.length)[k]? =some [.seq 1 ((sbL c k).map zae)]:=by unfold begE; rw [List.getElem?_map,List.getElem?_range hi]; rfl
    have hbl:(begE c c.states.length).length=c.states.length:=by simp [begE]
    have g0:((k:Nat):Int)< (c.states.length:Int):=by omega
    unfold zai tabCells at f0 |-
    refine zaa Tryz.func18 rfl Tryz.call18 (by rw [Tryz.ntmps18]; simp) ?_
    rw [Tryz.ntmps18,Tryz.results18]
    have F:=ai hb<|ai hbl<|ai g0<|e1
    repeat (first | refine st ?_ | refine cC f0 ?_ | refine cC f1 ?_)
    exact aR
end
section
open Go.RowKit
theorem light28_con (env:Env) (c:ChD):Con Tryz.prog env 28 [.agg (chAV c)] (B (zgf c)):=by
 unfold zgf
 by_cases h1:(c.states.length:Int)<=40<;>by_cases h2:(c.trans.length:Int)<=70<;>by_cases h3:(c.vars.length:Int)<=10
 all_goals (refine zaa Tryz.func28 rfl Tryz.call28 (by rw [Tryz.ntmps28]; simp) ?_
            rw [Tryz.ntmps28,Tryz.results28])
 all_goals have F:=ai chAV.eq_1<|ai h1<|ai h2<|h3
 all_goals (repeat refine st ?_)
 all_goals ((refine zak ?_; show (zaz _ _ _).run _=some _; simp only [go_sem,F]))
theorem rests28_con (env:Env) (c:ChD):Con Tryz.prog env 15 [.agg (chAV c)] (B (!zfx c)):=by
 have f0:=light28_con env c
 have f1:=zeO env c
 unfold zfx
 cases h1:zgf c<;>cases h2:((chk c).1==0)
 all_goals (rw [h1] at f0; rw [h2] at f1)
 all_goals (refine zaa Tryz.func15 rfl Tryz.call15 (by rw [Tryz.ntmps15]; simp) ?_
            rw [Tryz.ntmps15,Tryz.results15])
 all_goals (repeat (first | refine st0 ?_ | refine cC0 f0 ?_ | refine cC0 f1 ?_))
 all_goals ((refine zak ?_; show (zaz _ _ _).run _=some _; simp only [go_sem]))
theorem made28_none (env:Env) (c:ChD) (h:zfx c=false):Con Tryz.prog env 14 [.agg (chAV c)] (.lit (.pointer none)):=by
 have f0:=light28_con env c
 have f1:=zeO env c
 unfold zfx at h
 cases h1:zgf c
 ·rw [h1] at f0
  refine zaa Tryz.func14 rfl Tryz.call14 (by rw [Tryz.ntmps14]; simp) ?_
  rw [Tryz.ntmps14,Tryz.results14]
  repeat (first | refine st0 ?_ | refine cC0 f0 ?_ | refine cC0 f1 ?_)
  exact aR0
 ·rw [h1] at f0
  rw [h1,Bool.true_and] at h
  rw [h] at f1
  refine zaa Tryz.func14 rfl Tryz.call14 (by rw [Tryz.ntmps14]; simp) ?_
  rw [Tryz.ntmps14,Tryz.results14]
  repeat (first | refine st0 ?_ | refine cC0 f0 ?_ | refine cC0 f1 ?_)
  exact aR0
theorem made28_con (env:Env) (a1 a8:Addr) (he:ChEnv env a1 a8) (hT: ∀W,env.inv W->TabAt W) (c:ChD) (hcf:zdq c) (h:zfx c=true):Con Tryz.prog env 14 [.agg (chAV c)] (zai c):=by
 have f0:=light28_con env c
 have f1:=zeO env c
 unfold zfx at h
 rw [Bool.and_eq_true] at h
 rw [h.1] at f0
 rw [h.2] at f1
 rw [beq_iff_eq] at h
 have f2:=zii env a1 a8 he hT c (zq6 h.2) hcf
 unfold zai at f2 |-
 refine zaa Tryz.func14 rfl Tryz.call14 (by rw [Tryz.ntmps14]; simp) ?_
 rw [Tryz.ntmps14,Tryz.results14]
 repeat (first | refine st0 ?_ | refine cC0 f0 ?_ | refine cC0 f1 ?_ | refine cC0 f2 ?_)
 exact aR0
def wakeD:ChD:=⟨[99],0,[],[⟨[97],1, -1, -1,[],[]⟩],[⟨0,[120],[],[], -1⟩,⟨0,[],[],[],0⟩]⟩
def wakeAV:List AV:=[Sg [99],I 0,nilS, .seq 6 [[Sg [97],I 1,I (-1),I (-1),nilS,nilS]], .seq 5 [[I 0,Sg [120],nilS,nilS,I (-1)],[I 0,Sg [],nilS,nilS,I 0]]]
theorem wake_str:Strs [.agg wakeAV] [.agg (chAV wakeD)]:=by
 refine .one (.agg (.cons (.refl _) (.cons (.refl _) (.cons (.nil 2) (.cons (.seqs ?_) (.cons (.seqs ?_) .nil))))))
 ·exact .cons (.cons (.refl _) (.cons (.refl _) (.cons (.refl _) (.cons (.refl _) (.cons (.nil 4) (.cons (.nil 4) .nil)))))) .nil
 ·exact .cons (.cons (.refl _) (.cons (.refl _) (.cons (.nil 2) (.cons (.nil 4) (.cons (.refl _) .nil))))) (.cons (.cons (.refl _) (.cons (.refl _) (.cons (.nil 2) (.cons (.nil 4) (.cons (.refl _) .nil))))) .nil)
theorem wake_few:zdq wakeD:=by simp [zdq,zji,zjh,wakeD,maxLen]
theorem wake_chk:chk wakeD=(0, -1):=by decide+kernel
theorem awake28_con (env:Env) (a1 a8:Addr) (he:ChEnv env a1 a8) (hT: ∀W,env.inv W->TabAt W):Con Tryz.prog env 16 [] (B true):=by
 have f0:=(zii env a1 a8 he hT wakeD wake_chk wake_few).args wake_str
 have f1:=tabEvent_con env wakeD (by decide) [120]
 have f2:=tabAt_con env wakeD (by decide) 0 0
 have f3:=tabAuto_con env wakeD (by decide) 0
 have f4:=zbH env wakeD
 have f5:=zkP env wakeD
 rw [show evI wakeD [120]=0 by decide+kernel] at f1
 rw [show tatL wakeD 0 0=[0] by decide+kernel] at f2
 rw [show atL wakeD 0 (-1)=[1] by decide+kernel] at f3
 rw [show wakeD.states.length=1 from rfl] at f5
 unfold wakeAV at f0
 unfold zal at f4 f5
 unfold zai at f0 f1 f2 f3 f4
 generalize tabCells wakeD=T at*
 refine zaa Tryz.func16 rfl Tryz.call16 (by rw [Tryz.ntmps16]; simp) ?_
 rw [Tryz.ntmps16,Tryz.results16]
 repeat (first | refine st0 ?_ | refine cC0 f0 ?_ | refine cC0 f1 ?_ | refine cC0 f2 ?_ | refine cC0 f3 ?_ | refine cC0 f4 ?_ | refine cC0 f5 ?_)
 exact aR0
end
section
open Go.RowKit
def refAtP (c:ChD) (i:Int) (s:List UInt8) (k:Nat):Bool:=match c.trans[k]? with | some t=>decide (t.src=i/\t.event=s) | none=>false
def refAtTo (c:ChD) (i:Int) (s:List UInt8) (j:Nat):List Nat:=(List.range j).filter (refAtP c i s)
theorem pfilter_succ (p:Nat->Bool) (j:Nat):(List.range (j+1)).filter p=if p j then(List.range j).filter p++[j] else(List.range j).filter p:=by
 rw [List.range_succ,List.filter_append]
 cases hb:p j<;>simp [hb]
theorem pfilter_len (p:Nat->Bool) (j:Nat):((List.range j).filter p).length<=j:=Nat.le_trans (List.length_filter_le ..) (by simp)
theorem rAt_con (env:Env) (c:ChD) (hc:c.trans.length<=4000) (i:Int) (s:List UInt8):Con Tryz.prog env 23 [.agg (chAV c),I i,Sg s] (.own 3 1 ((refAtTo c i s c.trans.length).map zae)):=by
 refine zaa Tryz.func23 rfl Tryz.call23 (by rw [Tryz.ntmps23]; simp) ?_
 rw [Tryz.ntmps23,Tryz.results23]
 have F:=chAV.eq_1
 repeat refine st ?_
 refine zab (D:=Nat) (fun j vs=>[(1,I i),(2,Sg s),(3, .loc 3 (vs 3) 0 0),(7, .row 9 (vs 9)),(8,I j)]) (fun j _=>[(3,⟨5,[chAV c],26,false⟩),(9,⟨1,(refAtTo c i s j).map zae,3,true⟩)]) (fun j _ esc=>j<=c.trans.length/\esc 9=false) (fun j=>c.trans.length-j) 0 ?_ ?_ ?_ ?_
 ·exact⟨Nat.zero_le _,rfl⟩
 ·(simp only [go_sem,F])
 ·have F:=chAV.eq_1
  (simp only [go_sem,F])
  try rfl
 rintro j ws esc ⟨hj,e0⟩
 by_cases hlt:j<c.trans.length
 ·obtain⟨t,ht⟩: ∃t,c.trans[j]? =some t:=⟨c.trans[j],List.getElem?_eq_getElem hlt⟩
  have g1:=nlt hlt
  have g2:=zac hlt (by omega)
  have hn:refAtTo c i s (j+1)=if refAtP c i s j then refAtTo c i s j++[j] else refAtTo c i s j:=pfilter_succ (refAtP c i s) j
  have hl:(refAtTo c i s j).length<=j:=pfilter_len (refAtP c i s) j
  have hf:Fits ((refAtTo c i s j).length+1) 8:=zah (by omega) (by omega)
  have hp:refAtP c i s j=decide (t.src=i/\t.event=s):=by unfold refAtP; rw [ht]
  rw [hp] at hn
  by_cases h1:t.src=i
  ·by_cases h2:t.event=s
   ·rw [if_pos (by simp [h1,h2])] at hn
    have b1:(t.src==i)=true:=by simpa using h1
    have b2:(t.event==s)=true:=by simpa using h2
    have F:=ai chAV.eq_1<|ai trAV.eq_1<|ai g1<|ai g2<|ai ht<|ai b1<|ai b2<|ai hf<|e0
    repeat refine st ?_
    refine⟨j+1,⟨hlt,by simp only [go_sem,e0]⟩, ?_, ?_,by omega⟩
    ·(simp only [go_sem,F])
    ·have F:=ai chAV.eq_1<|ai zae.eq_1<|hn
     (simp only [go_sem,List.map_append,F])
   ·rw [if_neg (by simp [h2])] at hn
    have b1:(t.src==i)=true:=by simpa using h1
    have b2:(t.event==s)=false:=by simpa using h2
    have F:=ai chAV.eq_1<|ai trAV.eq_1<|ai g1<|ai g2<|ai ht<|ai b1<|ai b2<|ai hf<|e0
    repeat refine st ?_
    refine⟨j+1,⟨hlt,by simp only [go_sem,e0]⟩, ?_, ?_,by omega⟩
    ·(simp only [go_sem,F])
    ·have F:=ai chAV.eq_1<|ai zae.eq_1<|hn
     (simp only [go_sem,List.map_append,F])
  ·rw [if_neg (by simp [h1])] at hn
   have b1:(t.src==i)=false:=by simpa using h1
   have F:=ai chAV.eq_1<|ai trAV.eq_1<|ai g1<|ai g2<|ai ht<|ai b1<|ai hf<|e0
   repeat refine st ?_
   refine⟨j+1,⟨hlt,by simp only [go_sem,e0]⟩, ?_, ?_,by omega⟩
   ·(simp only [go_sem,F])
   ·have F:=ai chAV.eq_1<|ai zae.eq_1<|hn
    (simp only [go_sem,List.map_append,F])
 ·obtain rfl:j=c.trans.length:=by omega
  have g1: ¬(c.trans.length:Int)< (c.trans.length:Int):=by omega
  have F:=ai chAV.eq_1<|ai g1<|e0
  repeat refine st ?_
  exact aR
theorem refAt_auto (c:ChD) (i:Int):refAtTo c i [] c.trans.length=atL c i (-1):=by
 have:=at_ref (c:=c) i [] (.inl rfl)
 rw [evI_nil] at this
 rw [this]
 rfl
theorem rBegins_con (env:Env) (c:ChD) (h:Full c): ∀(n i:Nat),i<c.states.length->c.states.length<=i+n->Con Tryz.prog env 78 [.agg (chAV c),I i] (.own 3 1 ((bgL c i).map zae))
 | 0,i,hi,hn=>by omega
 | n+1,i,hi,hn=>by
   have hlen:=h.few
   obtain⟨s,hs⟩: ∃s,c.states[i]? =some s:=⟨c.states[i],List.getElem?_eq_getElem hi⟩
   have hb:=zqe h hs
   have hbl:=zqf h hi
   have g0:((i:Nat):Int)< (c.states.length:Int):=by omega
   have f0:=zbw env c i true (by omega)
   have hKl:=zbz h.toRight i true
   have hKm: ∀k∈kidsL c i true,i<k/\k<c.states.length:=fun k hk=>by
    have:=za0 h.toRight (zaO hk).1
    omega
   generalize kidsL c i true=K at*
   rw [hb]
   rw [hb] at hbl
   simp only [List.length_cons] at hbl
   refine zaa Tryz.func78 rfl Tryz.call78 (by rw [Tryz.ntmps78]; simp) ?_
   rw [Tryz.ntmps78,Tryz.results78]
   have F:=ai chAV.eq_1<|zae.eq_1
   repeat (first | refine st ?_ | refine cC f0 ?_)
   refine zab (D:=Nat) (fun j vs=>[(1,I i),(2, .loc 2 (vs 2) 0 0),(5, .row 9 (vs 9)),(6, .row 12 (vs 12)),(7,I j)]) (fun j _=>[(2,⟨5,[chAV c],26,false⟩),(9,⟨1,(i::(K.take j).flatMap fun k=>if s.kind=2\/s.initial=(k:Nat) then bgL c k else []).map zae,3,true⟩),(12,⟨1,K.map zae,3,true⟩)]) (fun j _ esc=>j<=K.length/\esc 9=false) (fun j=>K.length-j) 0 ?_ ?_ ?_ ?_
   ·exact⟨Nat.zero_le _,rfl⟩
   ·(simp only [go_sem,F])
   ·have F:=ai chAV.eq_1<|zae.eq_1
    (simp only [go_sem,List.flatMap_nil,F])
    try rfl
   rintro j ws esc ⟨hj,e0⟩
   by_cases hlt:j<K.length
   ·obtain⟨k,hk⟩: ∃k,K[j]? =some k:=⟨K[j],List.getElem?_eq_getElem hlt⟩
    have hkm:=hKm k (List.mem_of_getElem? hk)
    have q1:=nlt hlt
    have q2:=zac hlt (by omega)
    have f1:=rBegins_con env c h n k (by omega) (by omega)
    have hp:=zpt (fun k:Nat=>if s.kind=2\/s.initial=(k:Nat) then bgL c k else []) K (j+1)
    have hsu:=zoa (fun k:Nat=>if s.kind=2\/s.initial=(k:Nat) then bgL c k else []) hk
    rw [hsu] at hp
    simp only [List.length_append] at hp
    generalize hA:(K.take j).flatMap (fun k:Nat=>if s.kind=2\/s.initial=(k:Nat) then bgL c k else [])=A at*
    by_cases h2:s.kind=2
    ·have b1:(s.kind==2)=true:=by simpa using h2
     rw [if_pos (.inl h2)] at hp hsu
     have hf:Fits (A.length+1+(bgL c k).length) 8:=zah (by omega) (by omega)
     have F:=ai chAV.eq_1<|ai stAV.eq_1<|ai zae.eq_1<|ai hs<|ai hk<|ai q1<|ai q2<|ai g0<|ai b1<|ai hf<|e0
     repeat (first | refine st ?_ | refine cC f1 ?_)
     refine⟨j+1,⟨hlt,by simp only [go_sem,e0]⟩, ?_, ?_,by omega⟩
     ·(simp only [go_sem,F])
     ·have F:=ai chAV.eq_1<|ai zae.eq_1<|hsu
      (simp only [go_sem,List.map_append,F])
    ·have b1:(s.kind==2)=false:=by simpa using h2
     by_cases h3:s.initial=(k:Nat)
     ·have b2:(s.initial==((k:Nat):Int))=true:=by simpa using h3
      rw [if_pos (.inr h3)] at hp hsu
      have hf:Fits (A.length+1+(bgL c k).length) 8:=zah (by omega) (by omega)
      have F:=ai chAV.eq_1<|ai stAV.eq_1<|ai zae.eq_1<|ai hs<|ai hk<|ai q1<|ai q2<|ai g0<|ai b1<|ai b2<|ai hf<|e0
      repeat (first | refine st ?_ | refine cC f1 ?_)
      refine⟨j+1,⟨hlt,by simp only [go_sem,e0]⟩, ?_, ?_,by omega⟩
      ·(simp only [go_sem,F])
      ·have F:=ai chAV.eq_1<|ai zae.eq_1<|hsu
       (simp only [go_sem,List.map_append,F])
     ·have b2:(s.initial==((k:Nat):Int))=false:=by simpa using h3
      rw [if_neg (by simp [h2,h3]),List.append_nil] at hsu
      have F:=ai chAV.eq_1<|ai stAV.eq_1<|ai zae.eq_1<|ai hs<|ai hk<|ai q1<|ai q2<|ai g0<|ai b1<|ai b2<|e0
      repeat (first | refine st ?_ | refine cC f1 ?_)
      refine⟨j+1,⟨hlt,by simp only [go_sem,e0]⟩, ?_, ?_,by omega⟩
      ·(simp only [go_sem,F])
      ·have F:=ai chAV.eq_1<|ai zae.eq_1<|hsu
       (simp only [go_sem,List.map_append,F])
   ·obtain rfl:j=K.length:=by omega
    have q1: ¬(K.length:Int)< (K.length:Int):=by omega
    have hta:K.take K.length=K:=List.take_length
    have F:=ai zae.eq_1<|ai q1<|ai hta<|e0
    repeat refine st ?_
    exact aR
theorem rBegin_con (env:Env) (c:ChD) (h:Full c) (i:Int):Con Tryz.prog env 22 [.agg (chAV c),I i] (.own 3 1 ((tbegL c i).map zae)):=by
 have hlen:=h.few
 have key: ∀(k:Nat),k<c.states.length-> ∀(x:Int),(x= -1/\c.initial=k\/x=k)->Con Tryz.prog env 22 [.agg (chAV c),I x] (.own 3 1 ((sbL c k).map zae)):=fun k hk x hx=>by
  obtain⟨s,hs⟩: ∃s,c.states[k]? =some s:=⟨c.states[k],List.getElem?_eq_getElem hk⟩
  have f0:=zka env c k
  rw [show inZ c k=true from zaM.2 hk] at f0
  have f1:=za1 env s
  have f2:=rBegins_con env c h 40 k hk (by omega)
  have f3:=znf env c h.toRight (bgL c k) (by have:=zqf h hk; omega)
  change Con _ _ _ _ (.own _ 1 ((sbL c k).map zae)) at f3
  have g0:((k:Nat):Int)< (c.states.length:Int):=by omega
  rcases hx with⟨rfl,hx⟩ | rfl
  ·cases hm:zat s with
   | true=>
     rw [hm] at f1
     rw [sb_alone h hs hm]
     refine zaa Tryz.func22 rfl Tryz.call22 (by rw [Tryz.ntmps22]; simp) ?_
     rw [Tryz.ntmps22,Tryz.results22]
     have F:=ai chAV.eq_1<|ai stAV.eq_1<|ai hx<|ai hs<|ai g0<|zae.eq_1
     repeat (first | refine st ?_ | refine cC f0 ?_ | refine cC f1 ?_)
     exact aR
   | false=>
     rw [hm] at f1
     refine zaa Tryz.func22 rfl Tryz.call22 (by rw [Tryz.ntmps22]; simp) ?_
     rw [Tryz.ntmps22,Tryz.results22]
     have F:=ai chAV.eq_1<|ai stAV.eq_1<|ai hx<|ai hs<|g0
     repeat (first | refine st ?_ | refine cC f0 ?_ | refine cC f1 ?_ | refine cC f2 ?_ | refine cC f3 ?_)
     exact aR
  ·have b0:((k:Int) == -1)=false:=beq_false_of_ne (by omega)
   cases hm:zat s with
   | true=>
     rw [hm] at f1
     rw [sb_alone h hs hm]
     refine zaa Tryz.func22 rfl Tryz.call22 (by rw [Tryz.ntmps22]; simp) ?_
     rw [Tryz.ntmps22,Tryz.results22]
     have F:=ai chAV.eq_1<|ai stAV.eq_1<|ai hs<|ai g0<|ai zae.eq_1<|b0
     repeat (first | refine st ?_ | refine cC f0 ?_ | refine cC f1 ?_)
     exact aR
   | false=>
     rw [hm] at f1
     refine zaa Tryz.func22 rfl Tryz.call22 (by rw [Tryz.ntmps22]; simp) ?_
     rw [Tryz.ntmps22,Tryz.results22]
     have F:=ai chAV.eq_1<|ai stAV.eq_1<|ai hs<|ai g0<|b0
     repeat (first | refine st ?_ | refine cC f0 ?_ | refine cC f1 ?_ | refine cC f2 ?_ | refine cC f3 ?_)
     exact aR
 unfold tbegL
 by_cases e:i= -1
 ·subst e
  simp only [if_true]
  obtain⟨s,hs,hini,_⟩:=h.topS
  have hi:=(List.getElem?_eq_some_iff.1 hs).1
  rw [hini,if_pos (zaM.2 hi),Int.toNat_natCast]
  exact key _ hi (-1) (.inl ⟨rfl,hini⟩)
 ·rw [if_neg e]
  cases hz:inZ c i with
  | false=>
    have f0:=zka env c i
    rw [hz] at f0
    rw [if_neg (by simp)]
    have b0:(i == -1)=false:=by simpa using e
    refine zaj Tryz.func22 rfl Tryz.call22 (by rw [Tryz.ntmps22]; simp) ?_
    rw [Tryz.ntmps22,Tryz.results22]
    have F:=ai chAV.eq_1<|b0
    repeat (first | refine st ?_ | refine cC f0 ?_)
    (refine zak ?_; refine⟨_,(by show (zaz _ _ _).run _=some _; simp only [go_sem,F]; rfl), ?_⟩)
    exact RStr.own_nil _ _ (by decide)
  | true=>
    obtain⟨k,s,rfl,hs,ha⟩:=zb0 hz
    rw [if_pos rfl,Int.toNat_natCast]
    exact key k (List.getElem?_eq_some_iff.1 hs).1 k (.inr rfl)
end
section
open Go.RowKit Go.ChangeShapes Go.WideShapes Go.Deep
section
variable {H:Type} {enc:TypeId×Value->H} {P:Program} {w:World} {base:Nat} {spare:Nat->Bool} {held:Bool}
end
section
variable {H:Type} {enc:TypeId×Value->H} {w:World} {base:Nat} {spare:Nat->Bool} {held:Bool}
theorem open_chart {r0:Reach} {b0:Nat} {v:Value} {d:DataW H} {p:List MemPlace} (hv:Value.okWide Tryz.prog w r0 b0 26 v) (h:DataW.Trod enc Tryz.prog w base spare held 26 v d p):
 ∃c:ChD,zdq c/\RV (fun b _=>b<w.heap.size) w v (.agg (chAV c)):=by
 obtain⟨cs,rfl,hsz⟩:=okWide_struct Tryz.underlying26 hv
 obtain⟨l⟩:=cs
 obtain⟨fuel,hf⟩:=h
 obtain⟨c,h1,h2⟩:=zqq _ _ _ hf
 exact⟨c,h2,RVs.agg h1⟩
end
end
section
open Go.RowKit Go.ChangeShapes
structure TbW (w:World) (a1 a8:Addr):Prop where
 s1:Sent w 1 a1
 s8:Sent w 7 a8
 tab:TabAt w
def tbAt (a1 a8:Addr) (g:Nat):Option AV:=
 if g=1 then some (sentV a1) else
 if g=7 then some (sentV a8) else none
def tbEnv (a1 a8:Addr):Env:=⟨tbAt a1 a8,fun w=>TbW w a1 a8,fun _ _ h hb=>⟨h.s1.below hb,h.s8.below hb,h.tab.below hb⟩⟩
theorem tbEnv_ch (a1 a8:Addr):ChEnv (tbEnv a1 a8) a1 a8:=⟨rfl,rfl⟩
theorem tbEnv_tab (a1 a8:Addr): ∀W,(tbEnv a1 a8).inv W->TabAt W:=fun _ h=>TbW.tab h
theorem tbEnv_ok {a1 a8:Addr} {w:World} (h:TbW w a1 a8):EnvOk (tbEnv a1 a8) (fun b _=>b<w.heap.size) w:=by
 refine⟨h,fun b o hb=>hb,fun g c hg=> ?_⟩
 have hg:tbAt a1 a8 g=some c:=hg
 unfold tbAt at hg
 split at hg
 ·rename_i e; subst e; cases hg; exact⟨_,h.s1.1,rfl,zoE h.s1.1, .lit _⟩
 split at hg
 ·rename_i e; subst e; cases hg; exact⟨_,h.s8.1,rfl,zoE h.s8.1, .lit _⟩
 cases hg
theorem laid_tab {W:World} (h:laidMetH Tryz.prog [("math/bits.deBruijn32tab",Rows.laid_math_bits_deBruijn32tab),("scrinium/api.ErrForm",Rows.laid_scrinium_api_ErrForm),("scrinium/api.ErrLong",Rows.laid_scrinium_api_ErrLong)] W): ∃a1 a8,TbW W a1 a8:=by
 rw [MakeChecks.laidMetH_plain _ _ _ (by kernel_rfl)] at h
 obtain⟨ps,hv,hnd,hrows⟩:=h
 obtain⟨g0,t0,cs0,f0,p0,q0,hg0,ht0,hv0,hd0,hrest,rfl⟩:=hv
 have hT:=zqM hg0 ht0 hv0 hd0
 obtain⟨adl,h1,h2,h3⟩:=ziQ (nm:= "*errors.errorString") Tryz.underlying51 Tryz.row160 Tryz.underlying261 Tryz.underlying281 rfl rfl Tryz.underlying9 (by kernel_rfl) (by kernel_rfl)
  [("scrinium/api.ErrForm",[102,111,114,109]),("scrinium/api.ErrLong",[108,111,110,103])] [1,7] q0 hrest (by kernel_rfl) (by
    intro g hg
    simp at hg
    rcases hg with rfl | rfl<;>kernel_rfl) (fun b off hh=>hrows b off (List.mem_append_right _ hh))
 match adl,h1 with
 | [a1,a2],_=>exact⟨a1,a2,h2 0 _ _ rfl rfl,h2 1 _ _ rfl rfl,hT⟩
end
section
open Go.RowKit
def OwnAt (S:Nat->Nat->Prop) (w:World) (base:Nat) (v:Value) (i0:Nat) (e:TypeId) (sz:Nat) (es:List (List AV)) (cs:List AV):Prop:=
 ∃vs:List Value,v= .agg vs.toArray/\vs.length=cs.length/\(∀u∈vs,u.oneCell'=true)/\(∀(i:Nat) (u:Value) (c:AV),i≠i0->vs[i]? =some u->cs[i]? =some c->RV S w u c)/\ ∃u,vs[i0]? =some u/\OwnR S w base u e sz es
structure ConO (P:Program) (env:Env) (f:FuncId) (cs:List AV) (i0:Nat) (e:TypeId) (sz:Nat) (es:List (List AV)) (rs:List AV):Prop where
 enter: ∀(args:Array Value) (w:World),(callFunc f args).run P w= .ok (.enter f args) w
 calls: ∀(w:World) (S:Nat->Nat->Prop) (vs:List Value),EnvOk env S w->vs.length=cs.length->(∀(i:Nat) (v:Value) (c:AV),vs[i]? =some v->cs[i]? =some c->RV S w v c)->
  Calls P f vs.toArray w fun e' w'=> ∃v,e'= .returned v/\Below w.heap.size w w'/\ ∃S',(∀b o,S b o->S' b o)/\(∀b o,S' b o->S b o\/w.heap.size<=b)/\(∀b o,S' b o->b<w'.heap.size)/\OwnAt S' w' w.heap.size v i0 e sz es rs
def solid:AV->Bool
 | .agg cs=>cs.all AV.plain
 | c=>c.plain
theorem zrI {w:World} {m:Mem} {s:St} {c:AV} {u:Value} (h:RL w m s u c) (hc:solid c=true):RV m.S w u c:=by
 cases c with
 | agg cs=>
   obtain⟨vs,rfl,h1,h2,h3⟩:=h.agg_
   exact .agg vs cs h1 h2 fun i v c hv hcc=>(h3 i v c hv hcc).plain (List.all_eq_true.1 hc c (List.mem_of_getElem? hcc))
 | _=>exact h.plain hc
theorem zrG {P:Program} {env:Env} {f:FuncId} {cs:List AV} {i0:Nat} {e:TypeId} {sz:Nat} {es:List (List AV)} {rs:List AV} {d:Nat} {rows:Nat->Option Row} {vsv:Nat->Nat} (hC:ConO P env f cs i0 e sz es rs) (hp:cs.all solid=true):
 Acts P env f cs [d] rows vsv ⟨.agg (rs.set i0 (.row d (vsv d+1))),[.renew d ⟨sz,es,e,true⟩]⟩:=by
 refine⟨hC.enter,fun x s a w m vs hx hS hro hl hvs=> ?_⟩
 obtain⟨_,q2,_⟩:=hro d (by simp)
 have hE:=hS.envOk
 rw [hx] at hE
 refine(hC.calls w m.S vs hE hl fun i v c hv hc=>zrI (hvs i v c hv hc) (List.all_eq_true.1 hp c (List.mem_of_getElem? hc))).mono ?_
 rintro e' w' ⟨v,rfl,hb,S2,p1,p2,p3,ws,rfl,hwl,hw1,hwr,u,hu,l,ho,hpos,hEs,hfr⟩
 have hS1:=hS.called hb p1 p2 p3
 have hlow: ∀g,u.ownBlock=some g->w.heap.size<=g:=fun g hg=>(za2 ho hg).1
 have hS2:=hS1.renew d ⟨sz,es,e,true⟩ false u S2 (Below.refl _ _) (fun b o hh=>⟨hh, .rfl⟩) (fun b o hh=> .inl hh) (fun k row' _ hrk g hgk=>⟨rfl,fun hh=>by
  have h1:=((hS.rows k row' hrk).blk hgk).2
  have:=hlow g hh
  omega,fun o hh=>hh⟩)
  (.inl ⟨hpos,hEs.els,⟨l,by simp only [upd_same]; exact znt ho hS.bel.size,hEs.one,fun i j c hc=>by
   obtain⟨u',u1,u2⟩:=hEs.cell i j c hc
   exact⟨u',u1,by simpa using u2⟩⟩,(fun he=>by simp [St.renew,upd_same] at he),(fun g hgv o _=>by
    simp only [upd_same] at hgv
    exact hfr g hgv o),(fun _ g hgv o=>by
    simp only [upd_same] at hgv
    exact hfr g hgv o)⟩) (fun b hfx=>⟨rfl,fun _ hh=>hh,fun e=>by
    have:=hlow b e
    have:=hS.fxlt hfx
    omega⟩)
 refine⟨_,_,rfl,hS2, .agg ws _ (by rw [hwl,List.length_set]) hw1 fun i v c hv hc=> ?_⟩
 by_cases hi:i=i0
 ·subst hi
  rw [hu] at hv
  cases hv
  have hil:i<rs.length:=by
   have:=(List.getElem?_eq_some_iff.1 hu).1
   omega
  rw [List.getElem?_set_self hil] at hc
  cases hc
  refine .row d _ (hw1 u (List.mem_of_getElem? hu)) ?_ fun _ row' _=> ?_
  ·show vsv d+1<=upd s.vs d (s.vs d+1) d
   rw [upd_same,q2]
   exact Nat.le_refl _
  ·show u=upd m.ρ d u d
   rw [upd_same]
 ·rw [List.getElem?_set_ne (Ne.symm hi)] at hc
  exact .val (hwr i v c hi hv hc)
section
variable {P:Program} {env:Env} {s:St}
theorem zrz {o:Oper} {f:FuncId} {args cs:List AV} {i0:Nat} {e:TypeId} {sz:Nat} {es:List (List AV)} {rs:List AV} {rest:List Stp} {s1:St} {K:St->List Foot->Prop} (d:Nat) (hc:zaN env s.f o=some (f,args)) (hC:ConO P env f cs i0 e sz es rs) (hp:cs.all solid=true) (ha:Is args cs) (he:Is (s.esc d) false)
 (h1:Is ((⟨.agg (rs.set i0 (.row d (s.vs d+1))),[.renew d ⟨sz,es,e,true⟩]⟩:Out).app o.dst s) s1) (k:aops P env rest s1 fun s2 fts=>K s2 (⟨[d],[d],[d],[]⟩::fts)):aops P env (⟨o, .always⟩::rest) s K:=
 zjJ hc ha (zrG hC hp) (fun q hq=>by rw [List.mem_singleton.1 hq]; exact he) h1 k
end
/-! At a function's end -/
def zrw (P:Program) (f:Nat->AV):ResultVar->Rd Out
 | .tmp t=> .ret ⟨f t,[]⟩
 | .cell a t=>match f a with
   | .loc r ver i off=>Rd.row r ver fun row=>zce P t row.es[i]? off
   | _=> .fail
theorem zrJ {P:Program} {x:Ctx} {s:St} {a:Act} {w:World} {m:Mem} {r:ResultVar} {o:Out} (h:(zrw P s.f r).run s=some o) (hS:Sim x s a w m): ∃v,(resultSem a.tmps r).run P w= .ok v w/\RL w m s v o.val:=by
 cases r with
 | tmp t=>
   simp only [zrw,Rd.run,Option.some.injEq] at h
   subst h
   exact⟨_,rfl,hS.slot t⟩
 | cell p t=>
   simp only [zrw] at h
   have hp:=hS.slot p
   split at h
   ·rename_i r ver i off e
    rw [e] at hp
    obtain⟨row,hrow,hver,hrz,h⟩:=zbJ h
    obtain⟨g,hg,hv⟩:=hp.loc_.2 hver row hrow
    obtain⟨xs,k1,k2,k3⟩:=((hS.rows r row hrow).cells hrz).own
    cases he:row.es[i]? with
    | none=>
      rw [he] at h
      unfold zce at h
      cases hd:tyD P t with
      | none=>rw [hd] at h; simp [Rd.run] at h
      | some d=>rw [hd] at h; obtain⟨k,n,z⟩:=d; cases k<;>simp [Rd.run] at h
    | some cs=>
      rw [he] at h
      obtain⟨v,p1,p2,p3⟩:=zek (P:=P) (t:=t) (w:=w) (m:=m) (s:=s) (b:=g) (p:=i*row.sz) (fun j=>xs.getD (i*row.sz+j) undef) (fun j c hj=>by
       have hca:cellAt row.es i j=some c:=by unfold cellAt; rw [he]; exact hj
       obtain⟨u,q1,q2⟩:=k3 i j c hca
       have hu:xs.getD (i*row.sz+j) undef=u:=by simp [List.getD,q1]
       rw [hu]
       refine⟨zdG k1 hg _ u q1,k2 u (List.mem_of_getElem? q1), ?_⟩
       split at q2
       ·exact .val q2
       ·exact q2) h
      refine⟨v, ?_,p2⟩
      simp only [resultSem,hv,asAddr,Sem.run_bind,Sem.run_pure,Result.andThen_ok]
      simpa [Instr.loadAt,Instr.sureAddr] using p1
   ·simp [Rd.run] at h
def retO (P:Program) (rs:List ResultVar) (i0:Nat) (e:TypeId) (sz:Nat) (es:List (List AV)) (cs:List AV):Exit->St->Prop
 | .normal,s | .ret,s=> ∃r rr ver o,rs=[r]/\(zrw P s.f r).run s=some o/\o.val= .agg (cs.set i0 (.row rr ver))/\s.vs rr=ver/\s.rows rr=some ⟨sz,es,e,true⟩/\sz≠0/\s.esc rr=false/\i0<cs.length/\(∀(i:Nat) (c:AV),i≠i0->cs[i]? =some c->c.plain=true)
 | _,_=>False
theorem zrF {P:Program} {x:Ctx} {s:St} {a:Act} {w:World} {m:Mem} {fn:Func} {i0:Nat} {e:TypeId} {sz:Nat} {es:List (List AV)} {cs:List AV} (h:retO P fn.results.toList i0 e sz es cs .ret s) (hS:Sim x s a w m): ∃v,(results fn a.tmps).run P w= .ok v w/\OwnAt m.S w x.w.heap.size v i0 e sz es cs:=by
 obtain⟨r,rr,ver,o,hrs,hraw,hval,hver,hrow,hsz,hesc,hi,hpl⟩:=h
 obtain⟨v,p1,p2⟩:=zrJ hraw hS
 have ha:fn.results= #[r]:=by rw [<-Array.toArray_toList (xs:=fn.results),hrs]
 refine⟨v,by rw [zcC,ha]; simp [p1], ?_⟩
 rw [hval] at p2
 obtain⟨vs,rfl,h1,h2,h3⟩:=p2.agg_
 rw [List.length_set] at h1
 refine⟨vs,rfl,h1,h2,fun i u c hne hu hc=>(h3 i u c hu (by rw [List.getElem?_set_ne (Ne.symm hne)]; exact hc)).plain (hpl i c hne hc), ?_⟩
 have hu:vs[i0]? =some (vs[i0]'(by omega)):=List.getElem?_eq_getElem _
 refine⟨_,hu, ?_⟩
 have hv:=(h3 i0 _ (.row rr ver) hu (List.getElem?_set_self hi)).row_.2 hver _ hrow
 have k:=(hS.rows rr _ hrow).cells hsz
 obtain⟨xs,k1,k2,k3⟩:=k.own
 rw [hv]
 exact⟨xs,k1,k.pos,⟨k1.1,k2,k.len,fun i j c hc=>by
  obtain⟨u,u1,u2⟩:=k3 i j c hc
  rw [if_pos rfl] at u2
  exact⟨u,u1,u2⟩⟩,fun g hg o=>k.fresh hesc g hg o⟩
theorem zrt {P:Program} {env:Env} {f:FuncId} {fn:Func} {c:Code} {cs:List AV} {i0:Nat} {e:TypeId} {sz:Nat} {es:List (List AV)} {rs:List AV} (hf:P.funcs[f]? =some fn) (hb:fn.body=some c) (henter: ∀(args:Array Value) (w:World),(callFunc f args).run P w= .ok (.enter f args) w) (hn:cs.length<=fn.ntmps)
 (h:awp P env fn.ntmps c (retO P fn.results.toList i0 e sz es rs) (St.init cs)):ConO P env f cs i0 e sz es rs:=by
 refine⟨henter,fun w S vs hE hl hv=> ?_⟩
 refine calls_of_wp hf hb ?_
 have hS:Sim ⟨w,S,env,fn.ntmps,w,⟨S,fun _=>undef⟩,St.init cs,fun _=>False,[]⟩ (St.init cs) { tmps:=vs.toArray++Array.replicate (fn.ntmps-vs.toArray.size) undef,defers:=[] } w ⟨S,fun _=>undef⟩:=by
  refine⟨Below.refl _ _,hE.low,fun _ _ h=>h,fun _ _ h=> .inl h,hE.env,hE.low,hE.inv,rfl,by simp; omega,fun t=> ?_,(fun r row hr=>by cases hr),(fun r r' row row' hr=>by cases hr),(fun _ _ hh=>⟨hh, .rfl⟩),(fun _=>Nat.le_refl _),(fun r row' _ hr=>by cases hr),Nat.le_refl _,(fun _ h=>h.elim),(fun r row hr=>by cases hr)⟩
  show RL w _ _ _ (cs.getD t .any)
  by_cases ht:t<cs.length
  ·refine .val (hv t _ _ ?_ ?_)
   ·rw [Array.getD_eq_getD_getElem?,Array.getElem?_append_left (by simp; omega)]
    simp [show t<vs.length by omega]
   ·simp [List.getD,ht]
  ·have:cs.getD t .any= .any:=by simp [List.getD,List.getElem?_eq_none (Nat.le_of_not_lt ht)]
   rw [this]
   exact .val (.any _)
 refine wpIn_wide.1 (wpIn_mono (h none _ rfl rfl _ w _ hS) ?_)
 rintro e' a' w' ⟨s',m',h1,h2⟩
 cases e' with
 | normal=>
   obtain⟨v,p1,p5⟩:=zrF (fn:=fn) (show retO P fn.results.toList i0 e sz es rs .ret s' from h1) h2
   exact⟨h2.dfs,v,p1,v,rfl,h2.bel,m'.S,h2.sup,h2.sub,h2.low,p5⟩
 | ret=>
   obtain⟨v,p1,p5⟩:=zrF (fn:=fn) (show retO P fn.results.toList i0 e sz es rs .ret s' from h1) h2
   exact⟨h2.dfs,v,p1,v,rfl,h2.bel,m'.S,h2.sup,h2.sub,h2.low,p5⟩
 | _=>exact h1.elim
end
section
open Go.RowKit
theorem zru (c:ChD) (i:Nat) (a:AV) (_hi:i≠3) (h:(chAV c)[i]? =some a):a.plain=true:=by
 have:(chAV c).all AV.plain=true:=rfl
 exact List.all_eq_true.1 this a (List.mem_of_getElem? h)
theorem zrC (env:Env) (c:ChD) (hs:Small c):ConO Tryz.prog env 71 [.agg (chAV c)] 3 34 6 (c.states.map stAV) (chAV c):=by
 have hn1:=hs.sts
 have hn2:=hs.trs
 have f0:=zmv env (c.vars.map zcp) (by rw [List.length_map]; exact hs.vars)
 refine zrt Tryz.func71 rfl Tryz.call71 (by rw [Tryz.ntmps71]; simp) ?_
 rw [Tryz.ntmps71,Tryz.results71]
 have F:=chAV.eq_1
 repeat (first | refine st ?_ | refine cC f0 ?_)
 refine zbh 3 9000 0 3 ⟨5,[[Sg c.name,I c.initial, .row 14 1,nilS,nilS]],26,false⟩ [Sg c.name,I c.initial, .row 14 1,nilS,nilS] 34 6 (by decide) (by decide) (Nat.succ_ne_zero 4) rfl rfl rfl (by simp only [go_sem,F]; exact iR) (by simp only [go_sem,F]; exact iR) ?_
 refine zbh 3 9001 0 4 ⟨5,[[Sg c.name,I c.initial, .row 14 1, .row 9000 1,nilS]],26,false⟩ [Sg c.name,I c.initial, .row 14 1, .row 9000 1,nilS] 76 5 (by decide) (by decide) (Nat.succ_ne_zero 4) rfl rfl rfl (by simp only [go_sem,F]; exact iR) (by simp only [go_sem,F]; exact iR) ?_
 refine zab (D:=Nat) (fun j vs=>[(1, .loc 1 (vs 1) 0 0),(2, .loc 2 (vs 2) 0 0),(3, .loc 3 (vs 3) 0 0),(17,stsAV c.states),(18,I c.states.length),(19,I j)])
  (fun j vs=>[(1,⟨5,[chAV c],26,false⟩),(2,⟨5,[[Sg [],I 0,nilS,nilS,nilS]],26,false⟩),(3,⟨5,[[Sg c.name,I c.initial, .row 14 (vs 14), .row 9000 (vs 9000), .row 9001 (vs 9001)]],26,false⟩),(14,⟨2,c.vars.map zcp,108,true⟩),(9000,⟨6,(c.states.take j).map stAV,34,true⟩),(9001,⟨5,[],76,true⟩)])
  (fun j _ esc=>j<=c.states.length/\esc 2=false/\esc 3=false/\esc 14=false/\esc 9000=false/\esc 9001=false) (fun j=>c.states.length-j) 0 ?_ ?_ ?_ ?_
 ·refine⟨Nat.zero_le _, ?_, ?_, ?_, ?_, ?_⟩<;>simp only [go_sem]
 ·(simp only [go_sem,F])
 ·have F:=chAV.eq_1
  (simp only [go_sem,F])
 rintro j ws esc ⟨hj,e0,e1,e2,e3,e4⟩
 by_cases hlt:j<c.states.length
 ·obtain⟨s,hss⟩: ∃s,c.states[j]? =some s:=⟨c.states[j],List.getElem?_eq_getElem hlt⟩
  have g1:=nlt hlt
  have g2:=zac hlt (by omega)
  have f1:=zdt env s.inn (hs.st s (List.mem_of_getElem? hss)).1
  have f2:=zdt env s.out (hs.st s (List.mem_of_getElem? hss)).2
  have htl:(c.states.take j).length=j:=by rw [List.length_take]; omega
  have hf:Fits (j+1) 88:=zah (by omega) (by omega)
  have htk:c.states.take (j+1)=c.states.take j++[s]:=by rw [List.take_add_one,hss]; rfl
  have F:=ai chAV.eq_1<|ai stAV.eq_1<|ai g1<|ai g2<|ai hss<|ai htl<|ai hf<|ai e0<|ai e1<|ai e2<|ai e3<|e4
  repeat (first | refine st ?_ | refine cC f1 ?_ | refine cC f2 ?_)
  refine⟨j+1,⟨hlt, ?_, ?_, ?_, ?_, ?_⟩, ?_, ?_,by omega⟩
  all_goals (first | (show _=false; simp only [go_sem,e0,e1,e2,e3,e4]; done) | skip)
  ·(simp only [go_sem,F])
  ·have F:=ai chAV.eq_1<|ai stAV.eq_1<|ai htk<|ai e0<|ai e1<|ai e2<|ai e3<|e4
   (simp only [go_sem,List.map_append,F])
 obtain rfl:j=c.states.length:=by omega
 have g1: ¬(c.states.length:Int)< (c.states.length:Int):=by omega
 have hta:c.states.take c.states.length=c.states:=List.take_length
 have F:=ai chAV.eq_1<|ai g1<|ai hta<|ai e0<|ai e1<|ai e2<|ai e3<|e4
 repeat refine st ?_
 refine zab (D:=Nat) (fun j vs=>[(1, .loc 1 (vs 1) 0 0),(2, .loc 2 (vs 2) 0 0),(3, .loc 3 (vs 3) 0 0),(39,trsAV c.trans),(40,I c.trans.length),(41,I j)])
  (fun j vs=>[(1,⟨5,[chAV c],26,false⟩),(2,⟨5,[[Sg [],I 0,nilS,nilS,nilS]],26,false⟩),(3,⟨5,[[Sg c.name,I c.initial, .row 14 (vs 14), .row 9000 (vs 9000), .row 9001 (vs 9001)]],26,false⟩),(14,⟨2,c.vars.map zcp,108,true⟩),(9000,⟨6,c.states.map stAV,34,true⟩),(9001,⟨5,(c.trans.take j).map trAV,76,true⟩)])
  (fun j _ esc=>j<=c.trans.length/\esc 2=false/\esc 3=false/\esc 14=false/\esc 9000=false/\esc 9001=false) (fun j=>c.trans.length-j) 0 ?_ ?_ ?_ ?_
 ·refine⟨Nat.zero_le _, ?_, ?_, ?_, ?_, ?_⟩<;>simp only [go_sem,e0,e1,e2,e3,e4]
 ·(simp only [go_sem,F])
 ·have F:=chAV.eq_1
  (simp only [go_sem,F])
 try clear e0 e1 e2 e3 e4
 rintro j ws esc ⟨hj,e0,e1,e2,e3,e4⟩
 by_cases hlt:j<c.trans.length
 ·obtain⟨t,hss⟩: ∃s,c.trans[j]? =some s:=⟨c.trans[j],List.getElem?_eq_getElem hlt⟩
  have g1:=nlt hlt
  have g2:=zac hlt (by omega)
  have htm:=hs.tr t (List.mem_of_getElem? hss)
  have f1:=zhj env (t.guard.map opAV) (by rw [List.length_map]; exact htm.1)
  have f2:=zdt env t.acts htm.2
  have htl:(c.trans.take j).length=j:=by rw [List.length_take]; omega
  have hf:Fits (j+1) 80:=zah (by omega) (by omega)
  have htk:c.trans.take (j+1)=c.trans.take j++[t]:=by rw [List.take_add_one,hss]; rfl
  have F:=ai chAV.eq_1<|ai trAV.eq_1<|ai g1<|ai g2<|ai hss<|ai htl<|ai hf<|ai e0<|ai e1<|ai e2<|ai e3<|e4
  repeat (first | refine st ?_ | refine cC f1 ?_ | refine cC f2 ?_)
  refine⟨j+1,⟨hlt, ?_, ?_, ?_, ?_, ?_⟩, ?_, ?_,by omega⟩
  all_goals (first | (show _=false; simp only [go_sem,e0,e1,e2,e3,e4]; done) | skip)
  ·(simp only [go_sem,F])
  ·have F:=ai chAV.eq_1<|ai trAV.eq_1<|ai htk<|ai e0<|ai e1<|ai e2<|ai e3<|e4
   (simp only [go_sem,List.map_append,F])
 obtain rfl:j=c.trans.length:=by omega
 have g1: ¬(c.trans.length:Int)< (c.trans.length:Int):=by omega
 have hta:c.trans.take c.trans.length=c.trans:=List.take_length
 have F:=ai chAV.eq_1<|ai g1<|ai hta<|ai e0<|ai e1<|ai e2<|ai e3<|e4
 repeat refine st ?_
 refine zeC [(14,⟨2,c.vars.map zcp,108,true⟩),(9001,⟨5,c.trans.map trAV,76,true⟩)] ?_ ?_
 ·(simp only [go_sem,F])
  try rfl
 refine zak ?_
 refine⟨_,9000,ws 9000,⟨.agg [Sg c.name,I c.initial,varsAV c.vars, .row 9000 (ws 9000),trsAV c.trans],[]⟩,rfl, ?_,rfl,rfl, ?_,Nat.succ_ne_zero 5, ?_,(show 3<5 by decide), ?_⟩
 ·show (zrw _ _ _).run _=some _
  simp only [zrw,seenSt,seesR,zcw,Row.see,AV.see,AV.see.seeL,Option.getD_none,Option.getD_some,go_sem,F]
  try rfl
 ·simp only [seenSt,seesR,zcw,Row.see,AV.see,AV.see.seeL,Option.getD_none,Option.getD_some,go_sem,F]
  try rfl
 ·simp only [seenSt,seesR,zcw,Row.see,AV.see,AV.see.seeL,Option.getD_none,Option.getD_some,go_sem,F,e3,List.any_cons,List.any_nil]
  try rfl
 ·exact zru c
theorem zrv (env:Env) (c:ChD) (hs:Small c):ConO Tryz.prog env 17 [zai c] 3 34 6 (c.states.map stAV) (chAV c):=by
 have f1:=zrC env c hs
 unfold chAV at f1
 unfold zai tabCells
 refine zrt Tryz.func17 rfl Tryz.call17 (by rw [Tryz.ntmps17]; simp) ?_
 rw [Tryz.ntmps17,Tryz.results17]
 repeat refine st0 ?_
 refine zrz 9000 rfl f1 rfl (by simp only [go_sem]; exact iR) (by simp only [go_sem]; exact iR) (by simp only [go_sem,List.set_cons_succ,List.set_cons_zero]; exact iR) ?_
 repeat refine st0 ?_
 refine zak ?_
 refine⟨_,9000,1,⟨.agg [Sg c.name,I c.initial,varsAV c.vars, .row 9000 1,trsAV c.trans],[]⟩,rfl, ?_,rfl, ?_, ?_,Nat.succ_ne_zero 5, ?_,(show 3<5 by decide),zru c⟩
 ·show (zrw _ _ _).run _=some _
  simp only [zrw,go_sem]
  try rfl
 ·simp only [go_sem]
 ·simp only [go_sem]
 ·simp only [go_sem]
end
section
open Go.RowKit
theorem zrA {c:ChD} (h:Full c) (i:Int):(tbegL c i).length<=32:=by
 unfold tbegL
 generalize (if i= -1 then c.initial else i)=k
 cases inZ c k with
 | true=>exact sb_len h _
 | false=>exact Nat.zero_le _
end
section
open Go.RowKit
def zrr (c:ChD) (k:Nat):List StD:=(c.states.take k).map (fun s=>{ s with kind:= -1 })++c.states.drop k
theorem zrE (c:ChD) (k:Nat):(zrr c k).length=c.states.length:=by
 unfold zrr
 rw [List.length_append,List.length_map,List.length_take,List.length_drop]
 omega
theorem zrH {c:ChD} {k:Nat} {s:StD} (h:c.states[k]? =some s):(zrr c k)[k]? =some s:=by
 have hk:=(List.getElem?_eq_some_iff.1 h).1
 unfold zrr
 rw [List.getElem?_append_right (by rw [List.length_map,List.length_take]; omega),List.length_map,List.length_take,Nat.min_eq_left (by omega),Nat.sub_self,List.getElem?_drop,Nat.add_zero,h]
theorem zrD {c:ChD} {k:Nat} {s:StD} (h:c.states[k]? =some s):(zrr c k).set k { s with kind:= -1 } =zrr c (k+1):=by
 obtain⟨hk,he⟩:=List.getElem?_eq_some_iff.1 h
 unfold zrr
 rw [List.set_append_right _ _ (by rw [List.length_map,List.length_take]; omega),List.length_map,List.length_take,Nat.min_eq_left (by omega),Nat.sub_self,List.drop_eq_getElem_cons hk,he,List.set_cons_zero,List.take_add_one,h,List.map_append,List.append_assoc]
 rfl
def zrq (L:List Nat) (k:Nat):List (List AV):=List.replicate k [I (-7)]++(L.drop k).map zae
theorem zry {L:List Nat} {k:Nat} (h:k<=L.length):(zrq L k).length=L.length:=by
 unfold zrq
 rw [List.length_append,List.length_replicate,List.length_map,List.length_drop]
 omega
theorem zrB {L:List Nat} {k y:Nat} (h:L[k]? =some y):(zrq L k)[k]? =some [I y]:=by
 unfold zrq
 rw [List.getElem?_append_right (by rw [List.length_replicate]; exact Nat.le_refl _),List.length_replicate,Nat.sub_self,List.getElem?_map,List.getElem?_drop,Nat.add_zero,h]
 rfl
theorem zrx {L:List Nat} {k y:Nat} (h:L[k]? =some y):(zrq L k).set k [I (-7)]=zrq L (k+1):=by
 obtain⟨hk,he⟩:=List.getElem?_eq_some_iff.1 h
 unfold zrq
 rw [List.set_append_right _ _ (by rw [List.length_replicate]; exact Nat.le_refl _),List.length_replicate,Nat.sub_self,List.drop_eq_getElem_cons hk,List.map_cons,List.set_cons_zero,List.replicate_succ',List.append_assoc]
 rfl
theorem zrs (env:Env) (a1 a8:Addr) (he:ChEnv env a1 a8) (hT: ∀W,env.inv W->TabAt W) (c:ChD) (hcf:zdq c) (i:Int):Con Tryz.prog env 3 [.agg (chAV c),I i] (B true):=by
 have fa:=awake28_con env a1 a8 he hT
 have fr:=rests28_con env c
 cases hg:zfx c with
 | false=>
   rw [hg] at fr
   have fm:=made28_none env c hg
   unfold chAV at fr fm |-
   refine zaa Tryz.func3 rfl Tryz.call3 (by rw [Tryz.ntmps3]; simp) ?_
   rw [Tryz.ntmps3,Tryz.results3]
   repeat (first | refine st0 ?_ | refine cC0 fm ?_ | refine cC0 fr ?_ | refine cC0 fa ?_)
   exact aR0
 | true=>
   have h:=zi7 hg
   have hs:=zfA (by unfold zfx at hg; rw [Bool.and_eq_true,beq_iff_eq] at hg; exact hg.2)
   have hlen:=h.few
   have htr:=h.ftr
   have fm:=made28_con env a1 a8 he hT c hcf hg
   have f0:=zrv env c hs
   have f1:=zaG env c hs
   have f2:=tabBegin_con env c h (-1)
   have f3:=rBegin_con env c h (-1)
   have f4:=zfb env (tbegL c (-1)) (tbegL c (-1)) (by have:=zrA h (-1); omega)
   rw [decide_eq_true rfl] at f4
   have f5:=tabAuto_con env c (by omega) i
   have f6:=rAt_con env c (by omega) i []
   rw [refAt_auto] at f6
   have f7:=zfb env (atL c i (-1)) (atL c i (-1)) (by have:=atL_len c i (-1); omega)
   rw [decide_eq_true rfl] at f7
   have f8:=rSame_con env c c hcf
   rw [beq_self_eq_true] at f8
   have hL:=zrA h (-1)
   have hA:=atL_len c i (-1)
   generalize tbegL c (-1)=L at*
   generalize atL c i (-1)=A at*
   unfold chAV at fm f1 f3 f6 f8 |-
   unfold zai at fm f0 f1 f2 f5
   refine zaa Tryz.func3 rfl Tryz.call3 (by rw [Tryz.ntmps3]; simp) ?_
   rw [Tryz.ntmps3,Tryz.results3]
   repeat (first | refine st0 ?_ | refine cC0 fm ?_ | refine cC0 fr ?_)
   refine zrz 9000 rfl f0 rfl (by simp only [go_sem]; exact iR) (by simp only [go_sem]; exact iR) (by simp only [go_sem,chAV,List.set_cons_succ,List.set_cons_zero]; exact iR) ?_
   repeat refine st0 ?_
   refine zab (D:=Nat) (fun k vs=>[(1,I i),(2, .loc 2 (vs 2) 0 0),(5, .ref 9 [tabCells c] 0 0),(6, .loc 6 (vs 6) 0 0),(7,I k)]) (fun k vs=>[(2,⟨5,[chAV c],26,false⟩),(6,⟨5,[[Sg c.name,I c.initial,varsAV c.vars, .row 9000 (vs 9000),trsAV c.trans]],26,false⟩),(9000,⟨6,(zrr c k).map stAV,34,true⟩)]) (fun k _ esc=>k<=c.states.length/\esc 9000=false) (fun k=>c.states.length-k) 0 ?_ ?_ ?_ ?_
   ·exact⟨Nat.zero_le _,by simp only [go_sem]⟩
   ·(simp only [go_sem])
    try rfl
   ·have F:=chAV.eq_1
    (simp only [go_sem,F])
    try rfl
   rintro k ws esc ⟨hk,e0⟩
   have hsl:=zrE c k
   by_cases hlt:k<c.states.length
   ·obtain⟨s,hsk⟩: ∃s,c.states[k]? =some s:=⟨c.states[k],List.getElem?_eq_getElem hlt⟩
    have q1:(k:Int)< ((zrr c k).length:Int):=by omega
    have q2:=zac hlt (by omega)
    have hat:=zrH hsk
    have hset:((zrr c k).map stAV).set k [Sg s.name,I (-1),I s.parent,I s.initial,actsAV s.inn,actsAV s.out]=(zrr c (k+1)).map stAV:=by rw [<-zrD hsk,List.map_set]; rfl
    have F:=ai chAV.eq_1<|ai stAV.eq_1<|ai q1<|ai q2<|ai e0<|ai hat<|hset
    repeat refine st ?_
    refine⟨k+1,⟨hlt,by simp only [go_sem,e0]⟩, ?_, ?_,by omega⟩
    ·(simp only [go_sem,F])
    ·have F:=chAV.eq_1
     (simp only [go_sem,F])
   obtain rfl:k=c.states.length:=by omega
   have q1: ¬(c.states.length:Int)< ((zrr c c.states.length).length:Int):=by omega
   have F:=ai chAV.eq_1<|q1
   repeat (first | refine st ?_ | refine cC f2 ?_)
   refine zab (D:=Nat) (fun k vs=>[(1,I i),(2, .loc 2 (vs 2) 0 0),(5, .ref 9 [tabCells c] 0 0),(8, .row 36 (vs 36)),(9,I k)]) (fun k vs=>[(2,⟨5,[chAV c],26,false⟩),(36,⟨1,zrq L k,3,true⟩)]) (fun k _ esc=>k<=L.length/\esc 36=false) (fun k=>L.length-k) 0 ?_ ?_ ?_ ?_
   ·exact⟨Nat.zero_le _,by simp only [go_sem]⟩
   ·(simp only [go_sem,F])
    try rfl
   ·have F:=chAV.eq_1
    (simp only [go_sem,F])
    try rfl
   try clear e0 hsl q1
   rintro k ws esc ⟨hk,e0⟩
   have hsl:=zry hk
   by_cases hlt:k<L.length
   ·obtain⟨y,hy⟩: ∃y,L[k]? =some y:=⟨L[k],List.getElem?_eq_getElem hlt⟩
    have q1:(k:Int)< ((zrq L k).length:Int):=by omega
    have q2:=zac hlt (by omega)
    have hat:=zrB hy
    have hset:=zrx hy
    have F:=ai q1<|ai q2<|ai e0<|ai hat<|hset
    repeat refine st ?_
    refine⟨k+1,⟨hlt,by simp only [go_sem,e0]⟩, ?_, ?_,by omega⟩
    ·(simp only [go_sem,F])
    ·have F:=chAV.eq_1
     (simp only [go_sem,F])
   obtain rfl:k=L.length:=by omega
   have q1: ¬(L.length:Int)< ((zrq L L.length).length:Int):=by omega
   have F:=q1
   repeat (first | refine st ?_ | refine cC f5 ?_)
   refine zab (D:=Nat) (fun k vs=>[(1,I i),(2, .loc 2 (vs 2) 0 0),(5, .ref 9 [tabCells c] 0 0),(10, .row 48 (vs 48)),(11,I k)]) (fun k vs=>[(2,⟨5,[chAV c],26,false⟩),(48,⟨1,zrq A k,3,true⟩)]) (fun k _ esc=>k<=A.length/\esc 48=false) (fun k=>A.length-k) 0 ?_ ?_ ?_ ?_
   ·exact⟨Nat.zero_le _,by simp only [go_sem]⟩
   ·(simp only [go_sem,F])
    try rfl
   ·have F:=chAV.eq_1
    (simp only [go_sem,F])
    try rfl
   try clear e0 hsl q1
   rintro k ws esc ⟨hk,e0⟩
   have hsl:=zry hk
   by_cases hlt:k<A.length
   ·obtain⟨y,hy⟩: ∃y,A[k]? =some y:=⟨A[k],List.getElem?_eq_getElem hlt⟩
    have q1:(k:Int)< ((zrq A k).length:Int):=by omega
    have q2:=zac hlt (by omega)
    have hat:=zrB hy
    have hset:=zrx hy
    have F:=ai q1<|ai q2<|ai e0<|ai hat<|hset
    repeat refine st ?_
    refine⟨k+1,⟨hlt,by simp only [go_sem,e0]⟩, ?_, ?_,by omega⟩
    ·(simp only [go_sem,F])
    ·have F:=chAV.eq_1
     (simp only [go_sem,F])
   obtain rfl:k=A.length:=by omega
   have q1: ¬(A.length:Int)< ((zrq A A.length).length:Int):=by omega
   have F:=ai chAV.eq_1<|q1
   repeat (first | refine st ?_ | refine cC f1 ?_ | refine cC f8 ?_ | refine cC f2 ?_ | refine cC f3 ?_ | refine cC f4 ?_ | refine cC f5 ?_ | refine cC f6 ?_ | refine cC f7 ?_ | refine cC fa ?_)
   exact aR
end

end Go.Proofs.YtlmekdfleciejaaGreatDoor