/- Contracts of the program's checks of actions and states: by the walk without memory. -/
import Derived.Test.YtlmekdfleciejaaGreatDoorD18
import Derived.Test.YtlmekdfleciejaaGreatDoorD5
import Derived.Test.YtlmekdfleciejaaGreatDoorD7
import Derived.Test.YtlmekdfleciejaaGreatDoorD19
set_option maxRecDepth 100000
set_option maxHeartbeats 1000000
set_option linter.unusedSimpArgs false
namespace Go.Proofs.YtlmekdfleciejaaGreatDoor
open Go.RowKit
theorem ziE (env:Env) (a1 a8:Addr) (he:ChEnv env a1 a8) (c:ChD) (l:List OpD):Con Tryz.prog env 222 [.agg (chAV c),opsAV l] (B (zaK l c.vars.length c.states.length)):=by
 have hx:=zgL env a1 a8 he l c.vars.length c.states.length
 unfold zdW at hx
 refine zaa Tryz.func222 rfl Tryz.call222 (by rw [Tryz.ntmps222]; simp) ?_
 rw [Tryz.ntmps222,Tryz.results222]
 by_cases h0:zeZ l c.vars.length c.states.length=0
 ·rw [if_pos h0] at hx
  rw [show zaK l c.vars.length c.states.length=true by simp [zaK,h0]]
  have F:=chAV.eq_1
  repeat (first | refine st ?_ | refine cC hx ?_)
  exact aR
 ·rw [if_neg h0] at hx
  rw [show zaK l c.vars.length c.states.length=false by simp [zaK,h0]]
  by_cases h8:zeZ l c.vars.length c.states.length=8
  ·rw [if_pos h8] at hx
   have F:=chAV.eq_1
   repeat (first | refine st ?_ | refine cC hx ?_)
   exact aR
  ·rw [if_neg h8] at hx
   have F:=chAV.eq_1
   repeat (first | refine st ?_ | refine cC hx ?_)
   exact aR
theorem za3 {a b:Int} (h:a≠b):(a==b)=false:=by simpa using h
theorem zpe (env:Env) (a1 a8:Addr) (he:ChEnv env a1 a8) (c:ChD) (a:ActD) (ha:a.name.length<=9223372036854775807):Con Tryz.prog env 243 [.agg (chAV c), .agg (zaw a)] (B (actB c.vars.length c.states.length a)):=by
 obtain⟨k,n,m,co⟩:=a
 have hcode:=ziE env a1 a8 he c co
 have hname:=zca env m ha
 refine zaa Tryz.func243 rfl Tryz.call243 (by rw [Tryz.ntmps243]; simp) ?_
 rw [Tryz.ntmps243,Tryz.results243]
 by_cases hk1:k=1
 ·subst hk1
  have hr:actB c.vars.length c.states.length ⟨1,n,m,co⟩=(decide (0<=n/\n<c.vars.length)&&(m == [])&&zaK co c.vars.length c.states.length):=rfl
  by_cases h1:0<=n
  ·by_cases h2:n< (c.vars.length:Int)
   ·cases h3:(m == [])
    ·rw [show actB c.vars.length c.states.length ⟨1,n,m,co⟩=false by rw [hr,h3]; simp]
     have F:=ai chAV.eq_1<|ai zaw.eq_1<|ai h1<|ai h2<|h3
     repeat (first | refine st ?_ | refine cC hcode ?_)
     exact aR
    ·rw [show actB c.vars.length c.states.length ⟨1,n,m,co⟩=zaK co c.vars.length c.states.length by rw [hr,h3]; simp [h1,h2]]
     have F:=ai chAV.eq_1<|ai zaw.eq_1<|ai h1<|ai h2<|h3
     repeat (first | refine st ?_ | refine cC hcode ?_)
     exact aR
   ·rw [show actB c.vars.length c.states.length ⟨1,n,m,co⟩=false by rw [hr]; simp [h2]]
    have F:=ai chAV.eq_1<|ai zaw.eq_1<|ai h1<|h2
    repeat (first | refine st ?_ | refine cC hcode ?_)
    exact aR
  ·rw [show actB c.vars.length c.states.length ⟨1,n,m,co⟩=false by rw [hr]; simp [h1]]
   have F:=ai chAV.eq_1<|ai zaw.eq_1<|h1
   repeat (first | refine st ?_ | refine cC hcode ?_)
   exact aR
 by_cases hk24:k=2\/k=4
 ·have hr:actB c.vars.length c.states.length ⟨k,n,m,co⟩=((n==0)&&zaA m&&zaK co c.vars.length c.states.length):=by unfold actB; rw [if_neg hk1,if_pos hk24]
  rw [hr]
  rcases hk24 with rfl | rfl
  ·cases h1:(n==0)
   ·have F:=ai chAV.eq_1<|ai zaw.eq_1<|h1
    repeat (first | refine st ?_ | refine cC hcode ?_ | refine cC hname ?_)
    exact aR
   ·cases h2:zaA m
    ·have F:=ai chAV.eq_1<|ai zaw.eq_1<|ai h1<|h2
     repeat (first | refine st ?_ | refine cC hcode ?_ | refine cC hname ?_)
     exact aR
    ·have F:=ai chAV.eq_1<|ai zaw.eq_1<|ai h1<|h2
     repeat (first | refine st ?_ | refine cC hcode ?_ | refine cC hname ?_)
     exact aR
  ·cases h1:(n==0)
   ·have F:=ai chAV.eq_1<|ai zaw.eq_1<|h1
    repeat (first | refine st ?_ | refine cC hcode ?_ | refine cC hname ?_)
    exact aR
   ·cases h2:zaA m
    ·have F:=ai chAV.eq_1<|ai zaw.eq_1<|ai h1<|h2
     repeat (first | refine st ?_ | refine cC hcode ?_ | refine cC hname ?_)
     exact aR
    ·have F:=ai chAV.eq_1<|ai zaw.eq_1<|ai h1<|h2
     repeat (first | refine st ?_ | refine cC hcode ?_ | refine cC hname ?_)
     exact aR
 by_cases hk3:k=3
 ·subst hk3
  have hr:actB c.vars.length c.states.length ⟨3,n,m,co⟩=((n==0)&&(m == [])&&zaK co c.vars.length c.states.length):=rfl
  rw [hr]
  cases h1:(n==0)
  ·have F:=ai chAV.eq_1<|ai zaw.eq_1<|h1
   repeat (first | refine st ?_ | refine cC hcode ?_ | refine cC hname ?_)
   exact aR
  ·cases h2:(m == [])
   ·have F:=ai chAV.eq_1<|ai zaw.eq_1<|ai h1<|h2
    repeat (first | refine st ?_ | refine cC hcode ?_ | refine cC hname ?_)
    exact aR
   ·have F:=ai chAV.eq_1<|ai zaw.eq_1<|ai h1<|h2
    repeat (first | refine st ?_ | refine cC hcode ?_ | refine cC hname ?_)
    exact aR
 by_cases hk5:k=5
 ·subst hk5
  have hr:actB c.vars.length c.states.length ⟨5,n,m,co⟩=((n==0)&&zaA m&&(co == [])):=rfl
  rw [hr]
  have h3:((co.length:Int)==0)=(co == []):=by
   rw [Bool.eq_iff_iff]
   simp
  cases h1:(n==0)
  ·have F:=ai chAV.eq_1<|ai zaw.eq_1<|h1
   repeat (first | refine st ?_ | refine cC hcode ?_ | refine cC hname ?_)
   exact aR
  ·cases h2:zaA m
   ·have F:=ai chAV.eq_1<|ai zaw.eq_1<|ai h1<|h2
    repeat (first | refine st ?_ | refine cC hcode ?_ | refine cC hname ?_)
    exact aR
   ·have F:=ai chAV.eq_1<|ai zaw.eq_1<|ai h1<|ai h2<|h3
    repeat (first | refine st ?_ | refine cC hcode ?_ | refine cC hname ?_)
    exact aR
 have hr:actB c.vars.length c.states.length ⟨k,n,m,co⟩=false:=by unfold actB; rw [if_neg hk1,if_neg hk24,if_neg hk3,if_neg hk5]
 have b1:=za3 hk1
 have b2:=za3 (fun h=>hk24 (.inl h))
 have b4:=za3 (fun h=>hk24 (.inr h))
 have b3:=za3 hk3
 have b5:=za3 hk5
 rw [hr]
 have F:=ai chAV.eq_1<|ai zaw.eq_1<|ai b1<|ai b2<|ai b3<|ai b4<|b5
 repeat refine st ?_
 exact aR
theorem zbC {α:Type} {l:List α} {p:α->Bool} {i:Nat} {x:α} (h:(l.take i).all p=true) (hx:l[i]? =some x) (hp:p x=true):(l.take (i+1)).all p=true:=by
 obtain⟨h1,h2⟩:=List.getElem?_eq_some_iff.1 hx
 rw [List.take_succ_eq_append_getElem h1,List.all_append,h,h2]
 simp [hp]
theorem ze6 {α:Type} {l:List α} {p:α->Bool} {i:Nat} {x:α} (hx:l[i]? =some x) (hp:p x=false):l.all p=false:=by
 rw [Bool.eq_false_iff]
 intro h
 rw [List.all_eq_true] at h
 rw [h _ (List.mem_of_getElem? hx)] at hp
 cases hp
theorem zib {α:Type} {l:List α} {p:α->Bool} {i:Nat} (h:(l.take i).all p=true) (hi:l.length<=i):l.all p=true:=by
 rwa [List.take_of_length_le hi] at h
theorem zga (env:Env) (a1 a8:Addr) (he:ChEnv env a1 a8) (c:ChD) (l:List ActD) (hl:l.length<=9223372036854775807) (ha: ∀a∈l,a.name.length<=9223372036854775807):Con Tryz.prog env 221 [.agg (chAV c),actsAV l] (B (zbE c.vars.length c.states.length l)):=by
 refine zaa Tryz.func221 rfl Tryz.call221 (by rw [Tryz.ntmps221]; simp) ?_
 rw [Tryz.ntmps221,Tryz.results221]
 have F:=chAV.eq_1
 repeat refine st ?_
 refine zab (D:=Nat) (fun k vs=>[(1,actsAV l),(2, .loc 2 (vs 2) 0 0),(7,actsAV l),(8,I l.length),(9,I k)]) (fun _ _=>[(2,⟨5,[chAV c],26,false⟩)]) (fun k _ _=>k<=l.length/\(l.take k).all (actB c.vars.length c.states.length)=true) (fun k=>l.length-k) 0 ?_ ?_ ?_ ?_
 ·exact⟨Nat.zero_le _,rfl⟩
 ·(simp only [go_sem,F])
 ·(simp only [go_sem,F])
 rintro k ws esc ⟨hk,hall⟩
 by_cases hlt:k<l.length
 ·obtain⟨a,hx,hm⟩:=zam hlt
  have k1:=nlt hlt
  have k2:=zac hlt hl
  have hact:=zpe env a1 a8 he c a (ha a hm)
  cases h1:actB c.vars.length c.states.length a with
  | true=>
    have F:=ai chAV.eq_1<|ai k1<|ai k2<|ai hx<|ai zaw.eq_1<|h1
    repeat (first | refine st ?_ | refine cC hact ?_)
    refine⟨k+1,⟨hlt,zbC hall hx h1⟩, ?_, ?_, ?_⟩
    ·(simp only [go_sem,F])
    ·(simp only [go_sem,F])
    ·omega
  | false=>
    rw [show zbE c.vars.length c.states.length l=false by unfold zbE; rw [ze6 hx h1]; simp]
    have F:=ai chAV.eq_1<|ai k1<|ai k2<|ai hx<|ai zaw.eq_1<|h1
    repeat (first | refine st ?_ | refine cC hact ?_)
    exact aR
 ·have k1: ¬(k:Int)< (l.length:Int):=by omega
  have h3:decide ((l.length:Int)<=32)=decide (l.length<=32):=by rw [Bool.eq_iff_iff]; simp; omega
  rw [show zbE c.vars.length c.states.length l=decide (l.length<=32) by unfold zbE; rw [zib hall (by omega)]; simp]
  have F:=ai chAV.eq_1<|k1
  repeat refine st ?_
  (refine zak ?_; show (zaz _ _ _).run _=some _; simp only [go_sem,F])
  exact congrArg B h3
end Go.Proofs.YtlmekdfleciejaaGreatDoor
