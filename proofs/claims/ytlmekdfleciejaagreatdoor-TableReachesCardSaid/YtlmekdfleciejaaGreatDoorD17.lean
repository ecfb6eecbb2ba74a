/- Contracts of the document's saying whether charts are the same: by the walk without memory. -/
import Derived.Test.YtlmekdfleciejaaGreatDoorD5
import Derived.Test.YtlmekdfleciejaaGreatDoorD7
import Derived.Test.YtlmekdfleciejaaGreatDoorD10
import Derived.Test.YtlmekdfleciejaaGreatDoorD16
set_option maxRecDepth 100000
set_option maxHeartbeats 8000000
set_option linter.unusedSimpArgs false
namespace Go.Proofs.YtlmekdfleciejaaGreatDoor
open Go.RowKit
section
theorem zbi (env:Env) (c:UInt8):Con Tryz.prog env 141 [.lit (.int .u8 (c.toNat:Int))] (B (zbe c.toNat)):=by
 refine zaa Tryz.func141 rfl Tryz.call141 (by rw [Tryz.ntmps141]; simp) ?_
 rw [Tryz.ntmps141,Tryz.results141]
 have hc:=c.toNat_lt
 generalize c.toNat=n at*
 unfold zbe
 by_cases h1:(n:Int)=95
 ·have e:decide ((n:Int)=95\/(97<=(n:Int)/\(n:Int)<=122)\/(65<=(n:Int)/\(n:Int)<=90))=true:=by simp; omega
  rw [e]
  have h1:((n:Int)==95)=true:=by simp; omega
  have F:=h1
  repeat refine sg ?_
  exact aR
 ·have h1':((n:Int)==95)=false:=by simp; omega
  by_cases h2:(97:Int)<=(n:Int)
  ·by_cases h3:(n:Int)<=122
   ·have e:decide ((n:Int)=95\/(97<=(n:Int)/\(n:Int)<=122)\/(65<=(n:Int)/\(n:Int)<=90))=true:=by simp; omega
    rw [e]
    have F:=ai h1'<|ai h2<|h3
    repeat refine sg ?_
    exact aR
   ·have e:decide ((n:Int)=95\/(97<=(n:Int)/\(n:Int)<=122)\/(65<=(n:Int)/\(n:Int)<=90))=false:=by simp; omega
    have h4:(65:Int)<=(n:Int):=by omega
    have h5: ¬(n:Int)<=90:=by omega
    rw [e]
    have F:=ai h1'<|ai h2<|ai h3<|ai h4<|h5
    repeat refine sg ?_
    exact aR
  ·by_cases h4:(65:Int)<=(n:Int)
   ·by_cases h5:(n:Int)<=90
    ·have e:decide ((n:Int)=95\/(97<=(n:Int)/\(n:Int)<=122)\/(65<=(n:Int)/\(n:Int)<=90))=true:=by simp; omega
     rw [e]
     have F:=ai h1'<|ai h2<|ai h4<|h5
     repeat refine sg ?_
     exact aR
    ·have e:decide ((n:Int)=95\/(97<=(n:Int)/\(n:Int)<=122)\/(65<=(n:Int)/\(n:Int)<=90))=false:=by simp; omega
     rw [e]
     have F:=ai h1'<|ai h2<|ai h4<|h5
     repeat refine sg ?_
     exact aR
   ·have e:decide ((n:Int)=95\/(97<=(n:Int)/\(n:Int)<=122)\/(65<=(n:Int)/\(n:Int)<=90))=false:=by simp; omega
    rw [e]
    have F:=ai h1'<|ai h2<|h4
    repeat refine sg ?_
    exact aR
theorem zdX (env:Env) (c:UInt8):Con Tryz.prog env 142 [.lit (.int .u8 (c.toNat:Int))] (B (zfu c.toNat)):=by
 refine zaa Tryz.func142 rfl Tryz.call142 (by rw [Tryz.ntmps142]; simp) ?_
 rw [Tryz.ntmps142,Tryz.results142]
 generalize c.toNat=n at*
 unfold zfu
 by_cases h2:(48:Int)<=(n:Int)
 ·by_cases h3:(n:Int)<=57
  ·rw [decide_eq_true ⟨h2,h3⟩]
   have F:=ai h2<|h3
   repeat refine sg ?_
   exact aR
  ·rw [decide_eq_false (by omega)]
   have F:=ai h2<|h3
   repeat refine sg ?_
   exact aR
 ·rw [decide_eq_false (by omega)]
  have F:=h2
  repeat refine sg ?_
  exact aR
theorem zia {l:List UInt8} {p:UInt8->Bool} {i:Nat} (h:(l.take i).all p=true) (hi:i<l.length) (hp:p l[i]=true):(l.take (i+1)).all p=true:=by
 rw [List.take_succ_eq_append_getElem hi,List.all_append,h]
 simp [hp]
theorem zrh {l:List UInt8} {p:UInt8->Bool} {i:Nat} (hi:i<l.length) (hp:p l[i]=false):l.all p=false:=by
 rw [Bool.eq_false_iff]
 intro h
 rw [List.all_eq_true] at h
 rw [h _ (List.getElem_mem hi)] at hp
 cases hp
theorem zb7 (env:Env) (l:List UInt8):Con Tryz.prog env 92 [Sg l] (B (zaA l)):=by
 refine zaa Tryz.func92 rfl Tryz.call92 (by rw [Tryz.ntmps92]; simp) ?_
 rw [Tryz.ntmps92,Tryz.results92]
 by_cases h0:l=[]
 ·subst h0
  repeat refine sg0 ?_
  refine oY (by simp only [go_sem]; exact iR) ?_
  repeat refine sg0 ?_
  (refine zak ?_; show (zaz _ _ _).run _=some _; simp only [go_sem])
  rfl
 obtain⟨c,hc⟩: ∃c,l[0]? =some c:=⟨l[0]'(List.length_pos_iff.2 h0),List.getElem?_eq_getElem _⟩
 have g0:((l.length:Int)==0)=false:=by
  have:=List.length_pos_iff.2 h0
  simp; exact h0
 by_cases h1:l.length<=32
 ·have g1: ¬32< (l.length:Int):=by omega
  by_cases h2:zbe c.toNat=true
  ·have hnm:zaA l=l.all fun c=>zba c.toNat:=by
    cases l with
    | nil=>exact(h0 rfl).elim
    | cons d r=>
      simp only [List.getElem?_cons_zero,Option.some.injEq] at hc
      subst hc
      unfold zaA
      simp only [h2,decide_eq_true h1,Bool.true_and]
   have F:=ai g0<|ai g1<|ai hc<|h2
   repeat refine sg ?_
   refine cC (zbi env c) ?_
   repeat refine sg ?_
   refine oN (by simp only [go_sem,F]; exact iR) ?_
   repeat refine sg ?_
   refine zab (D:=Nat) (fun i _=>[(0,Sg l),(3,I i)]) (fun _ _=>[]) (fun i _ _=>i<=l.length/\((l.take i).all fun c=>zba c.toNat)=true) (fun i=>l.length-i) 0 ?_ ?_ ?_ ?_
   ·exact⟨Nat.zero_le _,rfl⟩
   ·(simp only [go_sem,F])
   ·(simp only [go_sem,F])
   rintro i vs esc ⟨hi,ha⟩
   by_cases hlt:i<l.length
   ·have g2:=nlt hlt
    have g3:=zac hlt (by omega)
    have g4:l[i]? =some l[i]:=List.getElem?_eq_getElem hlt
    have hnxt:=fun hp=>zia (p:=fun c=>zba c.toNat) ha hlt hp
    have hnot:=fun hp=>zrh (p:=fun c=>zba c.toNat) hlt hp
    try simp only at hnxt
    try simp only at hnot
    generalize l[i]=x at*
    by_cases h5:zbe x.toNat=true
    ·
     have F:=ai g2<|ai g3<|ai g4<|h5
     repeat refine sg ?_
     refine oY (by simp only [go_sem,F]; exact iR) ?_
     repeat refine sg ?_
     refine cC (zbi env x) ?_
     repeat refine sg ?_
     refine oN (by simp only [go_sem,F]; exact iR) ?_
     repeat refine sg ?_
     refine⟨i+1,⟨hlt,hnxt (by simp [zba,h5])⟩, ?_, ?_, ?_⟩
     ·(simp only [go_sem,F])
     ·(simp only [go_sem,F])
     ·omega
    have h5:zbe x.toNat=false:=by simpa using h5
    by_cases h6:zfu x.toNat=true
    ·
     have F:=ai g2<|ai g3<|ai g4<|ai h5<|h6
     repeat refine sg ?_
     refine oY (by simp only [go_sem,F]; exact iR) ?_
     repeat refine sg ?_
     refine cC (zbi env x) ?_
     repeat refine sg ?_
     refine cC (zdX env x) ?_
     repeat refine sg ?_
     refine oN (by simp only [go_sem,F]; exact iR) ?_
     repeat refine sg ?_
     refine⟨i+1,⟨hlt,hnxt (by simp [zba,h5,h6])⟩, ?_, ?_, ?_⟩
     ·(simp only [go_sem,F])
     ·(simp only [go_sem,F])
     ·omega
    have h6:zfu x.toNat=false:=by simpa using h6
    by_cases h7:(x.toNat:Int)=46
    ·have h8:((x.toNat:Int) != 46)=false:=by rw [h7]; rfl
     have F:=ai g2<|ai g3<|ai g4<|ai h5<|ai h6<|h8
     repeat refine sg ?_
     refine oY (by simp only [go_sem,F]; exact iR) ?_
     repeat refine sg ?_
     refine cC (zbi env x) ?_
     repeat refine sg ?_
     refine cC (zdX env x) ?_
     repeat refine sg ?_
     refine oN (by simp only [go_sem,F]; exact iR) ?_
     repeat refine sg ?_
     refine⟨i+1,⟨hlt,hnxt (by simp only [zba,h5,h6,decide_eq_true h7,Bool.or_true])⟩, ?_, ?_, ?_⟩
     ·(simp only [go_sem,F])
     ·(simp only [go_sem,F])
     ·omega
    ·have h8:((x.toNat:Int) != 46)=true:=bne_iff_ne.2 h7
     have F:=ai g2<|ai g3<|ai g4<|ai h5<|ai h6<|h8
     repeat refine sg ?_
     refine oY (by simp only [go_sem,F]; exact iR) ?_
     repeat refine sg ?_
     refine cC (zbi env x) ?_
     repeat refine sg ?_
     refine cC (zdX env x) ?_
     repeat refine sg ?_
     refine oY (by simp only [go_sem,F]; exact iR) ?_
     repeat refine sg ?_
     (refine zak ?_; show (zaz _ _ _).run _=some _; simp only [go_sem,F])
     rw [hnm,hnot (by simp only [zba,h5,h6,decide_eq_false h7,Bool.or_false])]
   ·have g2: ¬(i:Int)< (l.length:Int):=by omega
    have F:=g2
    repeat refine sg ?_
    refine oN (by simp only [go_sem,F]; exact iR) ?_
    repeat refine sg ?_
    (refine zak ?_; show (zaz _ _ _).run _=some _; simp only [go_sem,F])
    rw [hnm, <-ha,List.take_of_length_le (by omega)]
  ·have h2:zbe c.toNat=false:=by simpa using h2
   have hnm:zaA l=false:=by
    cases l with
    | nil=>exact(h0 rfl).elim
    | cons d r=>
      simp only [List.getElem?_cons_zero,Option.some.injEq] at hc
      subst hc
      unfold zaA
      simp only [h2,Bool.and_false,Bool.false_and]
   rw [hnm]
   have F:=ai g0<|ai g1<|ai hc<|h2
   repeat refine sg ?_
   refine cC (zbi env c) ?_
   repeat refine sg ?_
   refine oY (by simp only [go_sem,F]; exact iR) ?_
   repeat refine sg ?_
   exact aR
 ·have g1:32< (l.length:Int):=by omega
  have hnm:zaA l=false:=by
   unfold zaA
   rw [decide_eq_false h1]
   rfl
  rw [hnm]
  have F:=ai g0<|ai g1<|hc
  repeat refine sg ?_
  refine oY (by simp only [go_sem,F]; exact iR) ?_
  repeat refine sg ?_
  exact aR
end
section
theorem zca (env:Env) (l:List UInt8) (hl:l.length<=9223372036854775807):Con Tryz.prog env 177 [Sg l] (B (zaA l)):=
 zkx Tryz.call177 fun w S vs hE hlen hv=>by
  match vs,hlen with
  | [v],_=>
    obtain rfl:=(hv 0 v _ rfl rfl).lit_inv
    refine(zpj l hl w).mono ?_
    rintro e w' ⟨rfl,rfl⟩
    exact⟨rfl,Below.refl _ _⟩
def zjc (n:Int):Bool:=decide (-2147483647<=n)&&decide (n<=2147483647)
theorem zmP (env:Env) (n:Int):Con Tryz.prog env 217 [I n] (B (zjc n)):=by
 unfold zjc
 refine zaa Tryz.func217 rfl Tryz.call217 (by rw [Tryz.ntmps217]; simp) ?_
 rw [Tryz.ntmps217,Tryz.results217]
 by_cases h1: -2147483647<=n<;>by_cases h2:n<=2147483647<;>
 ·have F:=ai h1<|h2
  repeat refine st ?_
  exact aR
theorem zni (env:Env) (n:Int):Con Tryz.prog env 143 [I n] (B (zjc n)):=by
 unfold zjc
 refine zaa Tryz.func143 rfl Tryz.call143 (by rw [Tryz.ntmps143]; simp) ?_
 rw [Tryz.ntmps143,Tryz.results143]
 by_cases h1: -2147483647<=n<;>by_cases h2:n<=2147483647<;>
 ·have F:=ai h1<|h2
  repeat refine st ?_
  exact aR
/-! Expressions' kinds -/
theorem zdT {p:Int->Int->Prop} (h1: ∀k:Int,1<=k->k<=4-> ¬k<1-> ¬19<k-> ¬4<k->p k 0) (h5:p 5 1) (h6:p 6 1)
 (h7: ∀k:Int,1<=k-> ¬k<=4->(k==5)=false->(k==6)=false->7<=k->k<=19-> ¬k<1-> ¬19<k-> ¬k<=6->p k 2)
 (h8: ∀k:Int,¬1<=k->(k==5)=false->(k==6)=false-> ¬7<=k->k<1->p k (-1))
 (h9: ∀k:Int,1<=k-> ¬k<=4->(k==5)=false->(k==6)=false->7<=k-> ¬k<=19-> ¬k<1->19<k->p k (-1)) (k:Int):p k (zaf k):=by
 have ne: ∀a b:Int,a≠b->(a==b)=false:=fun a b h=>by simpa using h
 by_cases a:1<=k
 ·by_cases b:k<=4
  ·rw [show zaf k=0 by unfold zaf; rw [if_pos ⟨a,b⟩]]
   exact h1 k a b (by omega) (by omega) (by omega)
  ·by_cases c:k=5
   ·subst c; exact h5
   ·by_cases d:k=6
    ·subst d; exact h6
    ·by_cases e:k<=19
     ·rw [show zaf k=2 by unfold zaf; rw [if_neg (by omega),if_neg (by omega),if_pos (by omega)]]
      exact h7 k a b (ne _ _ c) (ne _ _ d) (by omega) e (by omega) (by omega) (by omega)
     ·rw [show zaf k= -1 by unfold zaf; rw [if_neg (by omega),if_neg (by omega),if_neg (by omega)]]
      exact h9 k a b (ne _ _ c) (ne _ _ d) (by omega) e (by omega) (by omega)
 ·rw [show zaf k= -1 by unfold zaf; rw [if_neg (by omega),if_neg (by omega),if_neg (by omega)]]
  exact h8 k a (ne _ _ (by omega)) (ne _ _ (by omega)) (by omega) (by omega)
theorem zb3 (env:Env) (k:Int):Con Tryz.prog env 250 [I k] (I (zaf k)):=by
 refine zdT (p:=fun k r=>Con Tryz.prog env 250 [I k] (I r)) ?_ ?_ ?_ ?_ ?_ ?_ k
 ·intro k a1 a2 a3 a4 a5
  refine zaa Tryz.func250 rfl Tryz.call250 (by rw [Tryz.ntmps250]; simp) ?_
  rw [Tryz.ntmps250,Tryz.results250]
  have F:=ai a1<|ai a2<|ai a3<|ai a4<|a5
  repeat refine st ?_
  exact aR
 ·refine zaa Tryz.func250 rfl Tryz.call250 (by rw [Tryz.ntmps250]; simp) ?_
  rw [Tryz.ntmps250,Tryz.results250]
  repeat refine st0 ?_
  exact aR0
 ·refine zaa Tryz.func250 rfl Tryz.call250 (by rw [Tryz.ntmps250]; simp) ?_
  rw [Tryz.ntmps250,Tryz.results250]
  repeat refine st0 ?_
  exact aR0
 ·intro k a1 a2 a3 a4 a5 a6 a7 a8 a9
  refine zaa Tryz.func250 rfl Tryz.call250 (by rw [Tryz.ntmps250]; simp) ?_
  rw [Tryz.ntmps250,Tryz.results250]
  have F:=ai a1<|ai a2<|ai a3<|ai a4<|ai a5<|ai a6<|ai a7<|ai a8<|a9
  repeat refine st ?_
  exact aR
 ·intro k a1 a2 a3 a4 a5
  refine zaa Tryz.func250 rfl Tryz.call250 (by rw [Tryz.ntmps250]; simp) ?_
  rw [Tryz.ntmps250,Tryz.results250]
  have F:=ai a1<|ai a2<|ai a3<|ai a4<|a5
  repeat refine st ?_
  exact aR
 ·intro k a1 a2 a3 a4 a5 a6 a7 a8
  refine zaa Tryz.func250 rfl Tryz.call250 (by rw [Tryz.ntmps250]; simp) ?_
  rw [Tryz.ntmps250,Tryz.results250]
  have F:=ai a1<|ai a2<|ai a3<|ai a4<|ai a5<|ai a6<|ai a7<|a8
  repeat refine st ?_
  exact aR
theorem zb2 (env:Env) (k:Int):Con Tryz.prog env 231 [I k] (I (zaf k)):=by
 refine zdT (p:=fun k r=>Con Tryz.prog env 231 [I k] (I r)) ?_ ?_ ?_ ?_ ?_ ?_ k
 ·intro k a1 a2 a3 a4 a5
  refine zaa Tryz.func231 rfl Tryz.call231 (by rw [Tryz.ntmps231]; simp) ?_
  rw [Tryz.ntmps231,Tryz.results231]
  have F:=ai a1<|ai a2<|ai a3<|ai a4<|a5
  repeat refine st ?_
  exact aR
 ·refine zaa Tryz.func231 rfl Tryz.call231 (by rw [Tryz.ntmps231]; simp) ?_
  rw [Tryz.ntmps231,Tryz.results231]
  repeat refine st0 ?_
  exact aR0
 ·refine zaa Tryz.func231 rfl Tryz.call231 (by rw [Tryz.ntmps231]; simp) ?_
  rw [Tryz.ntmps231,Tryz.results231]
  repeat refine st0 ?_
  exact aR0
 ·intro k a1 a2 a3 a4 a5 a6 a7 a8 a9
  refine zaa Tryz.func231 rfl Tryz.call231 (by rw [Tryz.ntmps231]; simp) ?_
  rw [Tryz.ntmps231,Tryz.results231]
  have F:=ai a1<|ai a2<|ai a3<|ai a4<|ai a5<|ai a6<|ai a7<|ai a8<|a9
  repeat refine st ?_
  exact aR
 ·intro k a1 a2 a3 a4 a5
  refine zaa Tryz.func231 rfl Tryz.call231 (by rw [Tryz.ntmps231]; simp) ?_
  rw [Tryz.ntmps231,Tryz.results231]
  have F:=ai a1<|ai a2<|ai a3<|ai a4<|a5
  repeat refine st ?_
  exact aR
 ·intro k a1 a2 a3 a4 a5 a6 a7 a8
  refine zaa Tryz.func231 rfl Tryz.call231 (by rw [Tryz.ntmps231]; simp) ?_
  rw [Tryz.ntmps231,Tryz.results231]
  have F:=ai a1<|ai a2<|ai a3<|ai a4<|ai a5<|ai a6<|ai a7<|a8
  repeat refine st ?_
  exact aR
theorem zgY {p:OpD->Bool->Prop} (vs ss:Int)
 (h1: ∀n:Int,p ⟨1,n⟩ (decide (0<=n)&&decide (n<=2147483647))) (h2: ∀n:Int,p ⟨2,n⟩ (decide (0<=n)&&decide (n<vs))) (h4: ∀n:Int,p ⟨4,n⟩ (decide (0<=n)&&decide (n<ss)))
 (h: ∀k n:Int,(k==1)=false->(k==2)=false->(k==4)=false->p ⟨k,n⟩ (decide (n=0))) (o:OpD):p o (numB o vs ss):=by
 have ne: ∀a b:Int,a≠b->(a==b)=false:=fun a b h=>by simpa using h
 obtain⟨k,n⟩:=o
 unfold numB
 simp only [Bool.decide_and]
 by_cases a:k=1
 ·subst a; simpa using h1 n
 by_cases b:k=2
 ·subst b; simpa using h2 n
 by_cases c:k=4
 ·subst c; simpa using h4 n
 rw [if_neg a,if_neg b,if_neg c]
 exact h k n (ne _ _ a) (ne _ _ b) (ne _ _ c)
theorem zcR (env:Env) (o:OpD) (vs ss:Int):Con Tryz.prog env 251 [.agg (opAV o),I vs,I ss] (B (numB o vs ss)):=by
 refine zgY (p:=fun o r=>Con Tryz.prog env 251 [.agg (opAV o),I vs,I ss] (B r)) vs ss (fun n=> ?_) (fun n=> ?_) (fun n=> ?_) (fun k n a1 a2 a3=> ?_) o
 ·refine zaa Tryz.func251 rfl Tryz.call251 (by rw [Tryz.ntmps251]; simp) ?_
  rw [Tryz.ntmps251,Tryz.results251]
  by_cases h1:0<=n<;>by_cases h2:n<=2147483647<;>
  ·have h3:(n<2147483648)=(n<=2147483647):=by rw [eq_iff_iff]; omega
   have F:=ai opAV.eq_1<|ai h1<|ai h2<|h3
   repeat refine st ?_
   exact aR
 ·refine zaa Tryz.func251 rfl Tryz.call251 (by rw [Tryz.ntmps251]; simp) ?_
  rw [Tryz.ntmps251,Tryz.results251]
  by_cases h1:0<=n<;>by_cases h2:n<vs<;>
  ·have F:=ai opAV.eq_1<|ai h1<|h2
   repeat refine st ?_
   exact aR
 ·refine zaa Tryz.func251 rfl Tryz.call251 (by rw [Tryz.ntmps251]; simp) ?_
  rw [Tryz.ntmps251,Tryz.results251]
  by_cases h1:0<=n<;>by_cases h2:n<ss<;>
  ·have F:=ai opAV.eq_1<|ai h1<|h2
   repeat refine st ?_
   exact aR
 ·refine zaa Tryz.func251 rfl Tryz.call251 (by rw [Tryz.ntmps251]; simp) ?_
  rw [Tryz.ntmps251,Tryz.results251]
  by_cases h1:0<=n<;>by_cases h2:n<1<;>
  ·have h3:(n=0)=(0<=n/\n<1):=by rw [eq_iff_iff]; omega
   have F:=ai opAV.eq_1<|ai h1<|ai h2<|ai h3<|ai a1<|ai a2<|a3
   repeat refine st ?_
   exact aR
theorem zcP (env:Env) (o:OpD) (vs ss:Int):Con Tryz.prog env 232 [.agg (opAV o),I vs,I ss] (B (numB o vs ss)):=by
 refine zgY (p:=fun o r=>Con Tryz.prog env 232 [.agg (opAV o),I vs,I ss] (B r)) vs ss (fun n=> ?_) (fun n=> ?_) (fun n=> ?_) (fun k n a1 a2 a3=> ?_) o
 ·refine zaa Tryz.func232 rfl Tryz.call232 (by rw [Tryz.ntmps232]; simp) ?_
  rw [Tryz.ntmps232,Tryz.results232]
  by_cases h1:0<=n<;>by_cases h2:n<=2147483647<;>
  ·have F:=ai opAV.eq_1<|ai h1<|h2
   repeat refine st ?_
   exact aR
 ·refine zaa Tryz.func232 rfl Tryz.call232 (by rw [Tryz.ntmps232]; simp) ?_
  rw [Tryz.ntmps232,Tryz.results232]
  by_cases h1:0<=n<;>by_cases h2:n<vs<;>
  ·have F:=ai opAV.eq_1<|ai h1<|h2
   repeat refine st ?_
   exact aR
 ·refine zaa Tryz.func232 rfl Tryz.call232 (by rw [Tryz.ntmps232]; simp) ?_
  rw [Tryz.ntmps232,Tryz.results232]
  by_cases h1:0<=n<;>by_cases h2:n<ss<;>
  ·have F:=ai opAV.eq_1<|ai h1<|h2
   repeat refine st ?_
   exact aR
 ·refine zaa Tryz.func232 rfl Tryz.call232 (by rw [Tryz.ntmps232]; simp) ?_
  rw [Tryz.ntmps232,Tryz.results232]
  have h3:decide (n=0)=(n==0):=by rw [Bool.eq_iff_iff]; simp
  rw [h3]
  have F:=ai opAV.eq_1<|ai a1<|ai a2<|a3
  repeat refine st ?_
  exact aR
/-! States' kinds -/
theorem zdj (env:Env) (s:StD):Con Tryz.prog env 134 [.agg (stAV s)] (B (zat s)):=by
 unfold zat
 refine zaa Tryz.func134 rfl Tryz.call134 (by rw [Tryz.ntmps134]; simp) ?_
 rw [Tryz.ntmps134,Tryz.results134]
 cases h1:(s.kind==4)<;>cases h2:(s.kind==5)<;>
 ·have F:=ai stAV.eq_1<|ai h1<|h2
  repeat refine st ?_
  exact aR
theorem za1 (env:Env) (s:StD):Con Tryz.prog env 50 [.agg (stAV s)] (B (zat s)):=by
 unfold zat
 refine zaa Tryz.func50 rfl Tryz.call50 (by rw [Tryz.ntmps50]; simp) ?_
 rw [Tryz.ntmps50,Tryz.results50]
 cases h1:(s.kind==4)<;>cases h2:(s.kind==5)<;>
 ·have F:=ai stAV.eq_1<|ai h1<|h2
  repeat refine st ?_
  exact aR
theorem zcS (env:Env) (s:StD):Con Tryz.prog env 182 [.agg (stAV s)] (B (zbV s)):=by
 unfold zbV
 refine zaa Tryz.func182 rfl Tryz.call182 (by rw [Tryz.ntmps182]; simp) ?_
 rw [Tryz.ntmps182,Tryz.results182]
 cases h1:(s.kind==1)<;>cases h2:(s.kind==2)<;>
 ·have F:=ai stAV.eq_1<|ai h1<|h2
  repeat refine st ?_
  exact aR
theorem zcQ (env:Env) (s:StD):Con Tryz.prog env 95 [.agg (stAV s)] (B (zbV s)):=by
 unfold zbV
 refine zaa Tryz.func95 rfl Tryz.call95 (by rw [Tryz.ntmps95]; simp) ?_
 rw [Tryz.ntmps95,Tryz.results95]
 cases h1:(s.kind==1)<;>cases h2:(s.kind==2)<;>
 ·have F:=ai stAV.eq_1<|ai h1<|h2
  repeat refine st ?_
  exact aR
end
section
end
section
end

end Go.Proofs.YtlmekdfleciejaaGreatDoor