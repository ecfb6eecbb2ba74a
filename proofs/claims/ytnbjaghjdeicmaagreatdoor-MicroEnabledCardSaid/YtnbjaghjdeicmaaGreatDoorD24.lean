/- Package micro: which transitions are enabled. -/
import Derived.Test.YtnbjaghjdeicmaaGreatDoorD23
import Derived.Test.YtnbjaghjdeicmaaGreatDoorD8
import Derived.Test.YtnbjaghjdeicmaaGreatDoorD6
import Derived.Test.YtnbjaghjdeicmaaGreatDoorD19
import Derived.Test.YtnbjaghjdeicmaaGreatDoorD21
import Derived.Test.YtnbjaghjdeicmaaGreatDoorD20
import Derived.Test.YtnbjaghjdeicmaaGreatDoorD14
import Derived.Test.YtnbjaghjdeicmaaGreatDoorD15
import Derived.Test.YtnbjaghjdeicmaaGreatDoorD22
import Derived.Test.YtnbjaghjdeicmaaGreatDoorD18
set_option maxRecDepth 100000
set_option maxHeartbeats 16000000
set_option linter.unusedSimpArgs false
namespace Go.Proofs.YtnbjaghjdeicmaaGreatDoor
section
open Go.RowKit
theorem zct (env:Env) (b:Bool):Con Tryz.prog env 309 [B b] (I (trI b)):=by
 cases b
 ·show Con _ _ _ _ (I 0)
  refine zaa Tryz.func309 rfl Tryz.call309 (by rw [Tryz.ntmps309]; simp) ?_
  rw [Tryz.ntmps309,Tryz.results309]
  repeat refine st0 ?_
  exact aR0
 ·show Con _ _ _ _ (I 1)
  refine zaa Tryz.func309 rfl Tryz.call309 (by rw [Tryz.ntmps309]; simp) ?_
  rw [Tryz.ntmps309,Tryz.results309]
  repeat refine st0 ?_
  exact aR0
theorem ztE (a b:Int):a-a.tdiv b*b=a.tmod b:=by
 rw [Int.tmod_def,Int.mul_comm]
theorem zjL {a b:Int} (ha:zau a=true) (hb:zau b=true):Big (a.tdiv b*b):=zqj (zeX ha) hb
theorem zol (env:Env) (k a b:Int) (hk:7<=k/\k<=19) (ha:zau a=true) (hb:zau b=true):Con Tryz.prog env 311 [I k,I a,I b] (.tuple [I (binI k a b).1,B (binI k a b).2]):=by
 have hbig:=(zjw k ha hb).1
 by_cases h7:k=7
 ·subst h7
  have f0:=zbS env (a*b)
  have q1:IntKind.i64.wrap (a*b)=a*b:=zcQ hbig
  show Con _ _ _ _ (.tuple [I (a*b),B (zau (a*b))])
  refine zaa Tryz.func311 rfl Tryz.call311 (by rw [Tryz.ntmps311]; simp) ?_
  rw [Tryz.ntmps311,Tryz.results311]
  have F:=q1
  repeat (first | refine st ?_ | refine cC f0 ?_)
  exact aR
 by_cases h89:k=8\/k=9
 ·by_cases h0:b=0
  ·subst h0
   have q1:binI k a 0=(0,false):=by rcases h89 with rfl | rfl<;>rfl
   rw [q1]
   rcases h89 with rfl | rfl
   ·refine zaa Tryz.func311 rfl Tryz.call311 (by rw [Tryz.ntmps311]; simp) ?_
    rw [Tryz.ntmps311,Tryz.results311]
    repeat refine st0 ?_
    exact aR0
   ·refine zaa Tryz.func311 rfl Tryz.call311 (by rw [Tryz.ntmps311]; simp) ?_
    rw [Tryz.ntmps311,Tryz.results311]
    repeat refine st0 ?_
    exact aR0
  have q0:(b==0)=false:=by simpa using h0
  have q2:=zeS (zeX (b:=b) ha)
  rcases h89 with rfl | rfl
  ·have q1:binI 8 a b=(a.tdiv b,true):=by simp [binI,h0]
   rw [q1]
   refine zaa Tryz.func311 rfl Tryz.call311 (by rw [Tryz.ntmps311]; simp) ?_
   rw [Tryz.ntmps311,Tryz.results311]
   have F:=ai q0<|ai q2<|h0
   repeat refine st ?_
   exact aR
  ·have q1:binI 9 a b=(a.tmod b,true):=by simp [binI,h0]
   have q3:=zcQ (zjL (b:=b) ha hb)
   have q4:IntKind.i64.wrap (a-a.tdiv b*b)=a.tmod b:=by rw [ztE]; exact zeS (zjK ha)
   rw [q1]
   refine zaa Tryz.func311 rfl Tryz.call311 (by rw [Tryz.ntmps311]; simp) ?_
   rw [Tryz.ntmps311,Tryz.results311]
   have F:=ai q0<|ai q2<|ai q3<|ai q4<|h0
   repeat refine st ?_
   exact aR
 by_cases h10:k=10
 ·subst h10
  have f0:=zbS env (a+b)
  have q1:IntKind.i64.wrap (a+b)=a+b:=zcQ hbig
  show Con _ _ _ _ (.tuple [I (a+b),B (zau (a+b))])
  refine zaa Tryz.func311 rfl Tryz.call311 (by rw [Tryz.ntmps311]; simp) ?_
  rw [Tryz.ntmps311,Tryz.results311]
  have F:=q1
  repeat (first | refine st ?_ | refine cC f0 ?_)
  exact aR
 by_cases h11:k=11
 ·subst h11
  have f0:=zbS env (a-b)
  have q1:IntKind.i64.wrap (a-b)=a-b:=zcQ hbig
  show Con _ _ _ _ (.tuple [I (a-b),B (zau (a-b))])
  refine zaa Tryz.func311 rfl Tryz.call311 (by rw [Tryz.ntmps311]; simp) ?_
  rw [Tryz.ntmps311,Tryz.results311]
  have F:=q1
  repeat (first | refine st ?_ | refine cC f0 ?_)
  exact aR
 by_cases h18:k=18
 ·subst h18
  show Con _ _ _ _ (.tuple [I (trI (a != 0&&b != 0)),B true])
  have f0:=zct env (a != 0)
  have f1:=zct env (b != 0)
  have q1:IntKind.i64.wrap (trI (a != 0)*trI (b != 0))=trI (a != 0&&b != 0):=by cases (a != 0)<;>cases (b != 0)<;>rfl
  generalize (a != 0&&b != 0)=t at*
  refine zaa Tryz.func311 rfl Tryz.call311 (by rw [Tryz.ntmps311]; simp) ?_
  rw [Tryz.ntmps311,Tryz.results311]
  have F:=q1
  repeat (first | refine st ?_ | refine cC f0 ?_ | refine cC f1 ?_)
  exact aR
 by_cases h19:k=19
 ·subst h19
  show Con _ _ _ _ (.tuple [I (trI (a != 0||b != 0)),B true])
  have f0:=zct env (a != 0||b != 0)
  cases h0:(a != 0)
  ·rw [h0] at f0
   refine zaa Tryz.func311 rfl Tryz.call311 (by rw [Tryz.ntmps311]; simp) ?_
   rw [Tryz.ntmps311,Tryz.results311]
   have F:=h0
   repeat (first | refine st ?_ | refine cC f0 ?_)
   exact aR
  ·rw [h0] at f0
   refine zaa Tryz.func311 rfl Tryz.call311 (by rw [Tryz.ntmps311]; simp) ?_
   rw [Tryz.ntmps311,Tryz.results311]
   have F:=h0
   repeat (first | refine st ?_ | refine cC f0 ?_)
   exact aR
 have q1:binI k a b=(trI (cmpB k a b),true):=by
  unfold binI
  rw [if_neg h7,if_neg (by omega),if_neg (by omega),if_neg h10,if_neg h11,if_neg h18,if_neg h19]
 rw [q1]
 have f1:=zct env (cmpB k a b)
 obtain rfl | rfl | rfl | rfl | rfl | rfl:k=12\/k=13\/k=14\/k=15\/k=16\/k=17:=by omega
 ·have q2:cmpB 12 a b=decide (a<b):=rfl
  rw [q2] at f1 |-
  refine zaa Tryz.func311 rfl Tryz.call311 (by rw [Tryz.ntmps311]; simp) ?_
  rw [Tryz.ntmps311,Tryz.results311]
  repeat (first | refine st0 ?_ | refine cC0 f1 ?_)
  exact aR0
 ·have q2:cmpB 13 a b=decide (b<a):=rfl
  rw [q2] at f1 |-
  refine zaa Tryz.func311 rfl Tryz.call311 (by rw [Tryz.ntmps311]; simp) ?_
  rw [Tryz.ntmps311,Tryz.results311]
  repeat (first | refine st0 ?_ | refine cC0 f1 ?_)
  exact aR0
 ·have q2:cmpB 14 a b= !decide (b<a):=by show decide (a<=b)=_; rw [Bool.eq_iff_iff]; simp [Int.not_lt]
  rw [q2] at f1 |-
  refine zaa Tryz.func311 rfl Tryz.call311 (by rw [Tryz.ntmps311]; simp) ?_
  rw [Tryz.ntmps311,Tryz.results311]
  repeat (first | refine st0 ?_ | refine cC0 f1 ?_)
  exact aR0
 ·have q2:cmpB 15 a b= !decide (a<b):=by show decide (b<=a)=_; rw [Bool.eq_iff_iff]; simp [Int.not_lt]
  rw [q2] at f1 |-
  refine zaa Tryz.func311 rfl Tryz.call311 (by rw [Tryz.ntmps311]; simp) ?_
  rw [Tryz.ntmps311,Tryz.results311]
  repeat (first | refine st0 ?_ | refine cC0 f1 ?_)
  exact aR0
 ·have q2:cmpB 16 a b=(a==b):=rfl
  rw [q2] at f1 |-
  refine zaa Tryz.func311 rfl Tryz.call311 (by rw [Tryz.ntmps311]; simp) ?_
  rw [Tryz.ntmps311,Tryz.results311]
  repeat (first | refine st0 ?_ | refine cC0 f1 ?_)
  exact aR0
 ·have q2:cmpB 17 a b=(a != b):=rfl
  rw [q2] at f1 |-
  refine zaa Tryz.func311 rfl Tryz.call311 (by rw [Tryz.ntmps311]; simp) ?_
  rw [Tryz.ntmps311,Tryz.results311]
  repeat (first | refine st0 ?_ | refine cC0 f1 ?_)
  exact aR0
theorem zpZ (env:Env) (code:List OpD) (n:Nat) (hn:n<=code.length) (h32:code.length<=32):Con Tryz.prog env 310 [opsAV code,I ((n:Int)-1)] (I (lastTo code n 1:Nat)):=by
 refine zaa Tryz.func310 rfl Tryz.call310 (by rw [Tryz.ntmps310]; simp) ?_
 rw [Tryz.ntmps310,Tryz.results310]
 repeat refine st0 ?_
 refine zac (D:=Nat×Int) (fun d _=>[(0,opsAV code),(5,I d.2),(6,I ((d.1:Int)-1))]) (fun _ _=>[]) (fun d _ _=>d.1<=n/\lastTo code d.1 d.2=lastTo code n 1/\d.2+(d.1:Int)<=1+(n:Int)/\1-2*(n:Int)<=d.2-2*(d.1:Int)) (fun d=>d.1) (n,1) ?_ ?_ ?_ ?_
 ·exact⟨Nat.le_refl _,rfl,by simp only; omega,by simp only; omega⟩
 ·(simp only [go_sem])
 ·(simp only [go_sem])
 rintro⟨j,need⟩ vs esc ⟨hj,he,b1,b2⟩
 simp only at hj he b1 b2
 match j,hj,he,b1,b2 with
 | 0,hj,he,b1,b2=>
   have g1: ¬(0:Int)<=((0:Nat):Int)-1:=by omega
   rw [<-he]
   show awp _ _ _ _ _ _
   have e0:(lastTo code 0 need:Nat)=0:=rfl
   rw [e0]
   have F:=g1
   repeat refine st ?_
   exact aR
 | j+1,hj,he,b1,b2=>
   obtain⟨o,ho,_⟩:=zat (show j<code.length by omega)
   have hop:=zdV o.kind
   have f0:=zbR env o.kind
   have g0:((j+1:Nat):Int)-1=(j:Int):=by omega
   have g1:(0:Int)<=(j:Int):=by omega
   have g2:(j:Int)< (code.length:Int):=by omega
   have w1:IntKind.i64.wrap (need-1)=need-1:=zaC (by omega) (by omega)
   have w2:IntKind.i64.wrap (need-1+zae o.kind)=need-1+zae o.kind:=zaC (by omega) (by omega)
   have w3:IntKind.i64.wrap ((j:Int)-1)=(j:Int)-1:=zaC (by omega) (by omega)
   have hst:lastTo code (j+1) need=if need-1+zae o.kind=0 then j else lastTo code j (need-1+zae o.kind):=by
    conv=>lhs; unfold lastTo
    rw [ho]
   rw [hst] at he
   by_cases h0:need-1+zae o.kind=0
   ·rw [if_pos h0] at he
    rw [<-he]
    have b0:(need-1+zae o.kind==0)=true:=by simpa using h0
    have F:=ai opAV.eq_1<|ai ho<|ai g0<|ai g1<|ai g2<|ai w1<|ai w2<|ai w3<|b0
    repeat (first | refine st ?_ | refine cC f0 ?_)
    exact aR
   ·rw [if_neg h0] at he
    have b0:(need-1+zae o.kind==0)=false:=by simpa using h0
    have F:=ai opAV.eq_1<|ai ho<|ai g0<|ai g1<|ai g2<|ai w1<|ai w2<|ai w3<|b0
    repeat (first | refine st ?_ | refine cC f0 ?_)
    refine⟨(j,need-1+zae o.kind),⟨by simp only; omega,he,by simp only; omega,by simp only; omega⟩, ?_, ?_,by simp only; omega⟩
    ·(simp only [go_sem,F])
    ·(simp only [go_sem,F])
theorem zlO (env:Env) (w:WoD) (hw:w.Ok) (hl:w.vars.length<=1000000):Con Tryz.prog env 60 [.agg (woAV w)] (B true):=by
 have f0:=zbS env w.data
 rw [hw.data] at f0
 have f1: ∀x∈w.vars,Con Tryz.prog env 61 [I x] (B true):=fun x hx=>by
  have:=zbS env x
  rwa [hw.vars x hx] at this
 unfold woAV
 generalize List.map bCell w.act=X at*
 refine zaa Tryz.func60 rfl Tryz.call60 (by rw [Tryz.ntmps60]; simp) ?_
 rw [Tryz.ntmps60,Tryz.results60]
 repeat refine st0 ?_
 refine zac (D:=Nat) (fun j vs=>[(1, .loc 1 (vs 1) 0 0),(3,I j)]) (fun _ _=>[(1,⟨3,[[ints34 w.vars,I w.data, .seq 1 X]],120,false⟩)]) (fun j _ _=>j<=w.vars.length) (fun j=>w.vars.length-j) 0 ?_ ?_ ?_ ?_
 ·exact Nat.zero_le _
 ·(simp only [go_sem])
 ·(simp only [go_sem])
 rintro j vs esc hj
 by_cases hlt:j<w.vars.length
 ·obtain⟨x,hx⟩: ∃x,w.vars[j]? =some x:=⟨w.vars[j],List.getElem?_eq_getElem hlt⟩
  have g1:=nlt hlt
  have g2:=zab hlt (by omega)
  have f2:=f1 x (List.mem_of_getElem? hx)
  have F:=ai g1<|ai g2<|hx
  repeat (first | refine oO rfl (by simp only [go_sem,intAV,F]; exact⟨rfl,rfl⟩) ?_ | refine gR ?_ | refine gO ?_ | refine oC rfl (f2) (by simp only [go_sem,intAV,F]; exact iR) (by simp only [go_sem,intAV,F]; exact⟨rfl,rfl⟩) ?_ | refine oZ (zas ?_) | refine oZ ?_ | refine oS ?_ | refine gT ?_ | refine gD Tryz.mixed ?_ | refine oB ?_ | refine oK ?_ | (refine oX ?_; simp only [zal,zah, ↓reduceIte,Nat.reduceEqDiff,reduceCtorEq]) | refine oY (by simp only [go_sem,intAV,F]; exact iR) ?_ | refine oN (by simp only [go_sem,intAV,F]; exact iR) ?_)
  refine⟨j+1,hlt, ?_, ?_,by omega⟩
  ·(simp only [go_sem,intAV,F])
  ·(simp only [go_sem,intAV,F])
 obtain rfl:j=w.vars.length:=by omega
 have g1: ¬(w.vars.length:Int)< (w.vars.length:Int):=by omega
 have F:=g1
 repeat (first | refine st ?_ | refine cC f0 ?_)
 exact aR
theorem ze4 (env:Env) (w:WoD) (hw:w.Ok): ∀(f:Nat) (code:List OpD),code.length<=f->code.length<=32->hgt w.vars.length w.act.length code 0=some 1->Con Tryz.prog env 281 [opsAV code, .agg (woAV w)] (.tuple [I (treeF w f code).1,B (treeF w f code).2])
 | 0,code,hf,_,h=>by
   obtain rfl:code=[]:=List.length_eq_zero_iff.1 (by omega)
   simp [hgt] at h
 | f+1,code,hf,h32,h=>by
   obtain⟨l,o,hco,hs,hl⟩:=zji h
   have hlen:code.length=l.length+1:=by rw [hco]; simp
   have hat:code[l.length]? =some o:=by rw [hco]; simp
   have htk:code.take l.length=l:=by rw [hco]; simp
   have hres:treeF w (f+1) code=treeF w (f+1) (l++[o]):=by rw [hco]
   have hnum:=ztg hs
   have k1:IntKind.i64.wrap ((code.length:Int)-1)=(l.length:Int):=(zaC (by omega) (by omega)).trans (by omega)
   have k2:(l.length:Int)< (code.length:Int):=by omega
   have k3:(l.length:Int)<=(code.length:Int):=by omega
   rw [zbk] at hres
   obtain⟨k,n⟩:=o
   simp only at hs hl hres
   rcases zhT hs with⟨b1,b2,b3⟩ | ⟨b1,b3,_⟩ | ⟨b1,b2,b3,_⟩
   ·simp only at b1 b2 b3
    rw [if_pos b2] at hres
    rw [hres]
    unfold numB at hnum
    simp only at hnum
    obtain rfl | rfl | rfl | rfl:k=1\/k=2\/k=3\/k=4:=by omega
    ·show Con _ _ _ _ (.tuple [I n,B true])
     refine zaa Tryz.func281 rfl Tryz.call281 (by rw [Tryz.ntmps281]; simp) ?_
     rw [Tryz.ntmps281,Tryz.results281]
     have F:=ai opAV.eq_1<|ai hat<|ai k1<|k2
     repeat (first | refine oO rfl (by simp only [go_sem,woAV,F]; exact⟨rfl,rfl⟩) ?_ | refine gR ?_ | refine gO ?_ | refine oZ (zas ?_) | refine oZ ?_ | refine oS ?_ | refine gT ?_ | refine gD Tryz.mixed ?_ | refine oB ?_ | refine oK ?_ | (refine oX ?_; simp only [zal,zah, ↓reduceIte,Nat.reduceEqDiff,reduceCtorEq]) | refine oY (by simp only [go_sem,woAV,F]; exact iR) ?_ | refine oN (by simp only [go_sem,woAV,F]; exact iR) ?_)
     (refine zaf ?_; show (zao _ _ _).run _=some _; simp only [go_sem,woAV,F])
    ·have hnum:0<=n/\n<w.vars.length:=by simpa using hnum
     obtain⟨m,rfl⟩:=zcU hnum.1
     have q1:(m:Int)< (w.vars.length:Int):=hnum.2
     have q2:w.vars[m]? =some (w.vars.getD m 0):=by rw [List.getD_eq_getElem?_getD,List.getElem?_eq_getElem (by omega)]; rfl
     show Con _ _ _ _ (.tuple [I (w.vars.getD ((m:Int).toNat) 0),B true])
     rw [Int.toNat_natCast]
     refine zaa Tryz.func281 rfl Tryz.call281 (by rw [Tryz.ntmps281]; simp) ?_
     rw [Tryz.ntmps281,Tryz.results281]
     have F:=ai opAV.eq_1<|ai hat<|ai k1<|ai k2<|ai q1<|q2
     repeat (first | refine oO rfl (by simp only [go_sem,woAV,intAV,F]; exact⟨rfl,rfl⟩) ?_ | refine gR ?_ | refine gO ?_ | refine oZ (zas ?_) | refine oZ ?_ | refine oS ?_ | refine gT ?_ | refine gD Tryz.mixed ?_ | refine oB ?_ | refine oK ?_ | (refine oX ?_; simp only [zal,zah, ↓reduceIte,Nat.reduceEqDiff,reduceCtorEq]) | refine oY (by simp only [go_sem,woAV,intAV,F]; exact iR) ?_ | refine oN (by simp only [go_sem,woAV,intAV,F]; exact iR) ?_)
     (refine zaf ?_; show (zao _ _ _).run _=some _; simp only [go_sem,woAV,intAV,F])
    ·show Con _ _ _ _ (.tuple [I w.data,B true])
     refine zaa Tryz.func281 rfl Tryz.call281 (by rw [Tryz.ntmps281]; simp) ?_
     rw [Tryz.ntmps281,Tryz.results281]
     have F:=ai opAV.eq_1<|ai hat<|ai k1<|k2
     repeat (first | refine oO rfl (by simp only [go_sem,woAV,F]; exact⟨rfl,rfl⟩) ?_ | refine gR ?_ | refine gO ?_ | refine oZ (zas ?_) | refine oZ ?_ | refine oS ?_ | refine gT ?_ | refine gD Tryz.mixed ?_ | refine oB ?_ | refine oK ?_ | (refine oX ?_; simp only [zal,zah, ↓reduceIte,Nat.reduceEqDiff,reduceCtorEq]) | refine oY (by simp only [go_sem,woAV,F]; exact iR) ?_ | refine oN (by simp only [go_sem,woAV,F]; exact iR) ?_)
     (refine zaf ?_; show (zao _ _ _).run _=some _; simp only [go_sem,woAV,F])
    ·have hnum:0<=n/\n<w.act.length:=by simpa using hnum
     obtain⟨m,rfl⟩:=zcU hnum.1
     have q1:(m:Int)< (w.act.length:Int):=hnum.2
     have q2:w.act[m]? =some (w.act.getD m false):=by rw [List.getD_eq_getElem?_getD,List.getElem?_eq_getElem (by omega)]; rfl
     show Con _ _ _ _ (.tuple [I (trI (w.act.getD ((m:Int).toNat) false)),B true])
     rw [Int.toNat_natCast]
     have f0:=zct env (w.act.getD m false)
     generalize w.act.getD m false=t at*
     refine zaa Tryz.func281 rfl Tryz.call281 (by rw [Tryz.ntmps281]; simp) ?_
     rw [Tryz.ntmps281,Tryz.results281]
     have F:=ai opAV.eq_1<|ai hat<|ai k1<|ai k2<|ai q1<|q2
     repeat (first | refine oO rfl (by simp only [go_sem,woAV,bCell,F]; exact⟨rfl,rfl⟩) ?_ | refine gR ?_ | refine gO ?_ | refine oC rfl (f0) (by simp only [go_sem,woAV,bCell,F]; exact iR) (by simp only [go_sem,woAV,bCell,F]; exact⟨rfl,rfl⟩) ?_ | refine oZ (zas ?_) | refine oZ ?_ | refine oS ?_ | refine gT ?_ | refine gD Tryz.mixed ?_ | refine oB ?_ | refine oK ?_ | (refine oX ?_; simp only [zal,zah, ↓reduceIte,Nat.reduceEqDiff,reduceCtorEq]) | refine oY (by simp only [go_sem,woAV,bCell,F]; exact iR) ?_ | refine oN (by simp only [go_sem,woAV,bCell,F]; exact iR) ?_)
     (refine zaf ?_; show (zao _ _ _).run _=some _; simp only [go_sem,woAV,bCell,F])
   ·simp only at b1 b3
    rw [b3] at hl
    have hlf:l.length<=f:=by omega
    have f0:=ze4 env w hw f l hlf (by omega) hl
    have hbig:=(zee hw f l hlf hl).1
    generalize treeF w f l=T at*
    unfold woAV at f0 |-
    rcases b1 with rfl | rfl
    ·rw [if_neg (by omega),if_pos rfl] at hres
     rw [hres]
     have q1:IntKind.i64.wrap (0-T.1)=0-T.1:=zcQ (by unfold Big at hbig |-; omega)
     refine zaa Tryz.func281 rfl Tryz.call281 (by rw [Tryz.ntmps281]; simp) ?_
     rw [Tryz.ntmps281,Tryz.results281]
     have F:=ai opAV.eq_1<|ai hat<|ai htk<|ai k1<|ai k2<|ai k3<|q1
     repeat (first | refine oO rfl (by simp only [go_sem,Nat.sub_zero,F]; exact⟨rfl,rfl⟩) ?_ | refine gR ?_ | refine gO ?_ | refine oC rfl (f0) (by simp only [go_sem,Nat.sub_zero,F]; exact iR) (by simp only [go_sem,Nat.sub_zero,F]; exact⟨rfl,rfl⟩) ?_ | refine oZ (zas ?_) | refine oZ ?_ | refine oS ?_ | refine gT ?_ | refine gD Tryz.mixed ?_ | refine oB ?_ | refine oK ?_ | (refine oX ?_; simp only [zal,zah, ↓reduceIte,Nat.reduceEqDiff,reduceCtorEq]) | refine oY (by simp only [go_sem,Nat.sub_zero,F]; exact iR) ?_ | refine oN (by simp only [go_sem,Nat.sub_zero,F]; exact iR) ?_)
     (refine zaf ?_; show (zao _ _ _).run _=some _; simp only [go_sem,Nat.sub_zero,F])
    ·rw [if_neg (by omega),if_neg (by omega),if_pos rfl] at hres
     rw [hres]
     have f1:=zct env (T.1==0)
     refine zaa Tryz.func281 rfl Tryz.call281 (by rw [Tryz.ntmps281]; simp) ?_
     rw [Tryz.ntmps281,Tryz.results281]
     have F:=ai opAV.eq_1<|ai hat<|ai htk<|ai k1<|ai k2<|k3
     repeat (first | refine oO rfl (by simp only [go_sem,Nat.sub_zero,F]; exact⟨rfl,rfl⟩) ?_ | refine gR ?_ | refine gO ?_ | refine oC rfl (f0) (by simp only [go_sem,Nat.sub_zero,F]; exact iR) (by simp only [go_sem,Nat.sub_zero,F]; exact⟨rfl,rfl⟩) ?_ | refine oC rfl (f1) (by simp only [go_sem,Nat.sub_zero,F]; exact iR) (by simp only [go_sem,Nat.sub_zero,F]; exact⟨rfl,rfl⟩) ?_ | refine oZ (zas ?_) | refine oZ ?_ | refine oS ?_ | refine gT ?_ | refine gD Tryz.mixed ?_ | refine oB ?_ | refine oK ?_ | (refine oX ?_; simp only [zal,zah, ↓reduceIte,Nat.reduceEqDiff,reduceCtorEq]) | refine oY (by simp only [go_sem,Nat.sub_zero,F]; exact iR) ?_ | refine oN (by simp only [go_sem,Nat.sub_zero,F]; exact iR) ?_)
     (refine zaf ?_; show (zao _ _ _).run _=some _; simp only [go_sem,Nat.sub_zero,F])
   ·simp only at b1 b2 b3
    rw [b3] at hl
    obtain⟨h1,h2,h3⟩:=zjb hl
    rw [if_neg (by omega),if_neg (by omega),if_neg (by omega)] at hres
    have fl:=zpZ env code l.length (by omega) h32
    have ea:lastTo code l.length 1=lastTo l l.length 1:=by rw [hco]; exact zfG l _ _ _ (Nat.le_refl _)
    rw [ea] at fl
    generalize lastTo l l.length 1=p at*
    have f0:=ze4 env w hw f (l.take p) (by rw [List.length_take]; omega) (by rw [List.length_take]; omega) h1
    have f1:=ze4 env w hw f (l.drop p) (by rw [List.length_drop]; omega) (by rw [List.length_drop]; omega) h2
    have fa:=zee hw f (l.take p) (by rw [List.length_take]; omega) h1
    have fb:=zee hw f (l.drop p) (by rw [List.length_drop]; omega) h2
    have q1:IntKind.i64.wrap ((l.length:Int)-1)=(l.length:Int)-1:=zaC (by omega) (by omega)
    have q2:code.take p=l.take p:=by rw [hco,List.take_append_of_le_length (Nat.le_of_lt h3)]
    have q3:(code.drop p).take (l.length-p)=l.drop p:=by rw [<-List.drop_take,htk]
    have q4:(p:Int)<=(code.length:Int):=by omega
    have q5:(p:Int)<=(l.length:Int):=by omega
    generalize treeF w f (l.take p)=Ta at*
    generalize treeF w f (l.drop p)=Tb at*
    unfold woAV at f0 f1 |-
    have c1:(k==1)=false:=by simp; omega
    have c2:(k==2)=false:=by simp; omega
    have c3:(k==3)=false:=by simp; omega
    have c4:(k==4)=false:=by simp; omega
    have c5:(k==5)=false:=by simp; omega
    have c6:(k==6)=false:=by simp; omega
    rcases Ta with⟨av,ab⟩
    rcases Tb with⟨bv,bb⟩
    simp only at fa fb f0 f1 hres
    cases ab with
    | false=>
      rw [hres]
      show Con _ _ _ _ (.tuple [I 0,B false])
      refine zaa Tryz.func281 rfl Tryz.call281 (by rw [Tryz.ntmps281]; simp) ?_
      rw [Tryz.ntmps281,Tryz.results281]
      have F:=ai opAV.eq_1<|ai hat<|ai q1<|ai q2<|ai q3<|ai q4<|ai q5<|ai k1<|ai k2<|ai k3<|ai c1<|ai c2<|ai c3<|ai c4<|ai c5<|c6
      repeat (first | refine oO rfl (by simp only [go_sem,Nat.sub_zero,F]; exact⟨rfl,rfl⟩) ?_ | refine gR ?_ | refine gO ?_ | refine oC rfl (fl) (by simp only [go_sem,Nat.sub_zero,F]; exact iR) (by simp only [go_sem,Nat.sub_zero,F]; exact⟨rfl,rfl⟩) ?_ | refine oC rfl (f0) (by simp only [go_sem,Nat.sub_zero,F]; exact iR) (by simp only [go_sem,Nat.sub_zero,F]; exact⟨rfl,rfl⟩) ?_ | refine oC rfl (f1) (by simp only [go_sem,Nat.sub_zero,F]; exact iR) (by simp only [go_sem,Nat.sub_zero,F]; exact⟨rfl,rfl⟩) ?_ | refine oZ (zas ?_) | refine oZ ?_ | refine oS ?_ | refine gT ?_ | refine gD Tryz.mixed ?_ | refine oB ?_ | refine oK ?_ | (refine oX ?_; simp only [zal,zah, ↓reduceIte,Nat.reduceEqDiff,reduceCtorEq]) | refine oY (by simp only [go_sem,Nat.sub_zero,F]; exact iR) ?_ | refine oN (by simp only [go_sem,Nat.sub_zero,F]; exact iR) ?_)
      (refine zaf ?_; show (zao _ _ _).run _=some _; simp only [go_sem,Nat.sub_zero,F])
    | true=>
      cases bb with
      | false=>
        rw [hres]
        show Con _ _ _ _ (.tuple [I 0,B false])
        refine zaa Tryz.func281 rfl Tryz.call281 (by rw [Tryz.ntmps281]; simp) ?_
        rw [Tryz.ntmps281,Tryz.results281]
        have F:=ai opAV.eq_1<|ai hat<|ai q1<|ai q2<|ai q3<|ai q4<|ai q5<|ai k1<|ai k2<|ai k3<|ai c1<|ai c2<|ai c3<|ai c4<|ai c5<|c6
        repeat (first | refine oO rfl (by simp only [go_sem,Nat.sub_zero,F]; exact⟨rfl,rfl⟩) ?_ | refine gR ?_ | refine gO ?_ | refine oC rfl (fl) (by simp only [go_sem,Nat.sub_zero,F]; exact iR) (by simp only [go_sem,Nat.sub_zero,F]; exact⟨rfl,rfl⟩) ?_ | refine oC rfl (f0) (by simp only [go_sem,Nat.sub_zero,F]; exact iR) (by simp only [go_sem,Nat.sub_zero,F]; exact⟨rfl,rfl⟩) ?_ | refine oC rfl (f1) (by simp only [go_sem,Nat.sub_zero,F]; exact iR) (by simp only [go_sem,Nat.sub_zero,F]; exact⟨rfl,rfl⟩) ?_ | refine oZ (zas ?_) | refine oZ ?_ | refine oS ?_ | refine gT ?_ | refine gD Tryz.mixed ?_ | refine oB ?_ | refine oK ?_ | (refine oX ?_; simp only [zal,zah, ↓reduceIte,Nat.reduceEqDiff,reduceCtorEq]) | refine oY (by simp only [go_sem,Nat.sub_zero,F]; exact iR) ?_ | refine oN (by simp only [go_sem,Nat.sub_zero,F]; exact iR) ?_)
        (refine zaf ?_; show (zao _ _ _).run _=some _; simp only [go_sem,Nat.sub_zero,F])
      | true=>
        have f2:=zol env k av bv ⟨b1,b2⟩ (fa.2 rfl) (fb.2 rfl)
        rw [hres]
        simp only [Bool.and_self,if_true]
        generalize binI k av bv=R at*
        refine zaa Tryz.func281 rfl Tryz.call281 (by rw [Tryz.ntmps281]; simp) ?_
        rw [Tryz.ntmps281,Tryz.results281]
        have F:=ai opAV.eq_1<|ai hat<|ai q1<|ai q2<|ai q3<|ai q4<|ai q5<|ai k1<|ai k2<|ai k3<|ai c1<|ai c2<|ai c3<|ai c4<|ai c5<|c6
        repeat (first | refine oO rfl (by simp only [go_sem,Nat.sub_zero,F]; exact⟨rfl,rfl⟩) ?_ | refine gR ?_ | refine gO ?_ | refine oC rfl (fl) (by simp only [go_sem,Nat.sub_zero,F]; exact iR) (by simp only [go_sem,Nat.sub_zero,F]; exact⟨rfl,rfl⟩) ?_ | refine oC rfl (f0) (by simp only [go_sem,Nat.sub_zero,F]; exact iR) (by simp only [go_sem,Nat.sub_zero,F]; exact⟨rfl,rfl⟩) ?_ | refine oC rfl (f1) (by simp only [go_sem,Nat.sub_zero,F]; exact iR) (by simp only [go_sem,Nat.sub_zero,F]; exact⟨rfl,rfl⟩) ?_ | refine oC rfl (f2) (by simp only [go_sem,Nat.sub_zero,F]; exact iR) (by simp only [go_sem,Nat.sub_zero,F]; exact⟨rfl,rfl⟩) ?_ | refine oZ (zas ?_) | refine oZ ?_ | refine oS ?_ | refine gT ?_ | refine gD Tryz.mixed ?_ | refine oB ?_ | refine oK ?_ | (refine oX ?_; simp only [zal,zah, ↓reduceIte,Nat.reduceEqDiff,reduceCtorEq]) | refine oY (by simp only [go_sem,Nat.sub_zero,F]; exact iR) ?_ | refine oN (by simp only [go_sem,Nat.sub_zero,F]; exact iR) ?_)
        (refine zaf ?_; show (zao _ _ _).run _=some _; simp only [go_sem,Nat.sub_zero,F])
def zt3:Option Int->AV
 | some v=> .tuple [I v,I 0]
 | none=> .tuple [I 0,I 2]
theorem zp1 (env:Env) (w:WoD) (hw:w.Ok) (hl:w.vars.length<=1000000) (code:List OpD) (hc:zaH code w.vars.length w.act.length=true):Con Tryz.prog env 232 [opsAV code, .agg (woAV w)] (zt3 (zmi w code)):=by
 obtain⟨hh,hlen⟩:=znB hc
 have h0:zev code w.vars.length w.act.length=0:=by unfold zaH at hc; simpa using hc
 have f0:=zlO env w hw hl
 have f1:=zex env code w.vars.length w.act.length
 rw [h0] at f1
 have f2:=ze4 env w hw code.length code (Nat.le_refl _) hlen hh
 have q0:(w.act.map bCell).length=w.act.length:=List.length_map ..
 unfold zmi
 generalize treeF w code.length code=T at*
 obtain⟨v,b⟩:=T
 unfold woAV at f0 f2 |-
 cases b with
 | true=>
   show Con _ _ _ _ (.tuple [I v,I 0])
   refine zaa Tryz.func232 rfl Tryz.call232 (by rw [Tryz.ntmps232]; simp) ?_
   rw [Tryz.ntmps232,Tryz.results232]
   have F:=q0
   repeat (first | refine st ?_ | refine cC f0 ?_ | refine cC f1 ?_ | refine cC f2 ?_)
   exact aR
 | false=>
   show Con _ _ _ _ (.tuple [I 0,I 2])
   refine zaa Tryz.func232 rfl Tryz.call232 (by rw [Tryz.ntmps232]; simp) ?_
   rw [Tryz.ntmps232,Tryz.results232]
   have F:=q0
   repeat (first | refine st ?_ | refine cC f0 ?_ | refine cC f1 ?_ | refine cC f2 ?_)
   exact aR
end
section
open Go.RowKit
end
section
open Go.RowKit
theorem zhQ (env:Env) (l:List Int) (p:Int->Bool) (g:FuncId) (caps:List (List AV)) (hp: ∀d,Con Tryz.prog env g [I d, .ref 1 caps 0 0] (B (p d))) (hl:l.length<=4096):Con Tryz.prog env 214 [.seq 1 (l.map intAV), .clo g [.ref 1 caps 0 0]] (B (l.any p)):=by
 have f0:=zg8 env l p g caps hp hl
 cases hi:idxQ p l with
 | none=>
   rw [hi] at f0
   have h0:l.any p=false:=List.any_eq_false.2 fun x hx=>by rw [(zhc hi).2 x hx]; simp
   rw [h0]
   unfold idxJ at f0
   refine zaa Tryz.func214 rfl Tryz.call214 (by rw [Tryz.ntmps214]; simp) ?_
   rw [Tryz.ntmps214,Tryz.results214]
   repeat (first | refine st0 ?_ | refine cC0 f0 ?_)
   exact aR0
 | some i=>
   rw [hi] at f0
   obtain⟨_,_,d,h3,h4⟩:=zhb hi
   have h0:l.any p=true:=List.any_eq_true.2 ⟨d,List.mem_of_getElem? h3,h4⟩
   have q0:(0:Int)<=(i:Int):=by omega
   rw [h0]
   unfold idxJ at f0
   refine zaa Tryz.func214 rfl Tryz.call214 (by rw [Tryz.ntmps214]; simp) ?_
   rw [Tryz.ntmps214,Tryz.results214]
   have F:=q0
   repeat (first | refine st ?_ | refine cC f0 ?_)
   exact aR
end
section
open Go.RowKit Go.ChangeShapes Go.WideShapes Go.ChangeAt
abbrev InD:=List Int×List Int×List MemD×List (List UInt8×Int)×Bool
def inE (x:InD):List AV:=[ints34 x.1,ints34 x.2.1, .seq 2 (x.2.2.1.map mmAV), .seq 2 (x.2.2.2.1.map tmAV),B x.2.2.2.2]
def zno (t:List UInt8×Int):Prop:=t.1.length<=maxLen
def zuy (x:InD):Prop:=(x.1.length<=maxLen/\x.2.1.length<=maxLen)/\(x.2.2.1.length<=maxLen/\ ∀m∈x.2.2.1,zux m)/\x.2.2.2.1.length<=maxLen/\ ∀t∈x.2.2.2.1,zno t
theorem zuQ:Tryz.prog.cellsOf 4=1:=by kernel_rfl
theorem c_tm:Tryz.prog.cellsOf 114=2:=by kernel_rfl
theorem zuP:Tryz.prog.cellsOf 31=5:=by kernel_rfl
section
variable {H:Type} {enc:TypeId×Value->H} {w:World} {base:Nat} {spare:Nat->Bool} {held:Bool}
theorem ztM (m:Nat) (cs:List Value) (y:DataW H×List MemPlace) (h:DataW.trod enc Tryz.prog w base spare held m 114 cs=some y): ∃a:List UInt8×Int,RE w tmAV zno cs a:=by
 obtain⟨xs,n,_,_,hl,hxl,hg⟩:=DataW.trod_struct Tryz.underlying114 h
 rw [c_tm] at hl
 obtain⟨c0,c1,rfl⟩:=zsq hl
 obtain⟨y0,h0⟩:=zbd hxl hg 0 _ rfl 9 0 1 rfl rfl zdu
 obtain⟨x0,e0, -,s0⟩:=DataW.trod_string Tryz.underlying9 (show DataW.trod enc Tryz.prog w base spare held n 9 [c0]=some y0 from h0)
 cases e0
 obtain⟨⟨t0⟩⟩:=x0
 obtain⟨y1,h1⟩:=zbd hxl hg 1 _ rfl 3 1 1 rfl rfl c_int
 obtain⟨x1,e1, -, -⟩:=DataW.trod_int Tryz.underlying3 (show DataW.trod enc Tryz.prog w base spare held n 3 [c1]=some y1 from h1)
 cases e1
 exact⟨(t0,x1),⟨⟨rfl, .lit _⟩,⟨rfl, .lit _⟩,trivial⟩,(by simpa [zno,ByteArray.size] using s0)⟩
end
end
section
open Go.RowKit
def zar (c:ChD) (x:InD) (ev:List UInt8) (d n:Int):List AV:=[Sg c.name,I c.initial,varsAV c.vars,stsAV c.states,trsAV c.trans,ints34 x.1,ints34 x.2.1, .seq 2 (x.2.2.1.map mmAV), .seq 2 (x.2.2.2.1.map tmAV),B x.2.2.2.2,Sg ev,I d,I n]
theorem zeJ (env:Env) (c:ChD):Con Tryz.prog env 33 [.agg (chAV c)] (B (zg3 c)):=by
 unfold zg3
 by_cases h1:(c.states.length:Int)<=40<;>by_cases h2:(c.trans.length:Int)<=70<;>by_cases h3:(c.vars.length:Int)<=10
 all_goals (refine zaa Tryz.func33 rfl Tryz.call33 (by rw [Tryz.ntmps33]; simp) ?_
            rw [Tryz.ntmps33,Tryz.results33])
 all_goals have F:=ai chAV.eq_1<|ai h1<|ai h2<|h3
 all_goals (repeat refine st ?_)
 all_goals ((refine zaf ?_; show (zao _ _ _).run _=some _; simp only [go_sem,F]))
theorem zoB (env:Env) (a1 a8:Addr) (he:ChEnv env a1 a8) (hT: ∀W,env.inv W->TabAt W) (c:ChD) (hcf:zeA c) (h:zhh c=true):Con Tryz.prog env 18 [.agg (chAV c)] (zaj c):=by
 have f0:=zeJ env c
 have f1:=zfA env c
 unfold zhh at h
 rw [Bool.and_eq_true] at h
 rw [h.1] at f0
 rw [h.2] at f1
 rw [beq_iff_eq] at h
 have f2:=zjM env a1 a8 he hT c (zuL h.2) hcf
 unfold zaj at f2 |-
 refine zaa Tryz.func18 rfl Tryz.call18 (by rw [Tryz.ntmps18]; simp) ?_
 rw [Tryz.ntmps18,Tryz.results18]
 repeat (first | refine st0 ?_ | refine cC0 f0 ?_ | refine cC0 f1 ?_ | refine cC0 f2 ?_)
 exact aR0
def ze1 (c:ChD) (x:InD):Bool:= !zhh c||decide (60< (x.1.length:Int))||decide (60< (x.2.2.1.length:Int))||decide (60< (x.2.1.length:Int))
theorem zlI (env:Env) (c:ChD) (x:InD) (ev:List UInt8) (d n:Int):Con Tryz.prog env 19 [.agg (zar c x ev d n)] (B (ze1 c x)):=by
 have f0:=zeJ env c
 have f1:=zfA env c
 unfold chAV at f0 f1
 unfold ze1 zhh
 cases h1:zg3 c
 ·rw [h1] at f0
  refine zaa Tryz.func19 rfl Tryz.call19 (by rw [Tryz.ntmps19]; simp) ?_
  rw [Tryz.ntmps19,Tryz.results19]
  repeat (first | refine oO rfl (by simp only [go_sem,zar]; exact⟨rfl,rfl⟩) ?_ | refine gR ?_ | refine gO ?_ | refine oC rfl (f0) (by simp only [go_sem,zar]; exact iR) (by simp only [go_sem,zar]; exact⟨rfl,rfl⟩) ?_ | refine oC rfl (f1) (by simp only [go_sem,zar]; exact iR) (by simp only [go_sem,zar]; exact⟨rfl,rfl⟩) ?_ | refine oZ (zas ?_) | refine oZ ?_ | refine oS ?_ | refine gT ?_ | refine gD Tryz.mixed ?_ | refine oB ?_ | refine oK ?_ | (refine oX ?_; simp only [zal,zah, ↓reduceIte,Nat.reduceEqDiff,reduceCtorEq]) | refine oY (by simp only [go_sem,zar]; exact iR) ?_ | refine oN (by simp only [go_sem,zar]; exact iR) ?_)
  (refine zaf ?_; show (zao _ _ _).run _=some _; simp only [go_sem,zar])
 rw [h1] at f0
 cases h2:((chk c).1==0)
 ·rw [h2] at f1
  refine zaa Tryz.func19 rfl Tryz.call19 (by rw [Tryz.ntmps19]; simp) ?_
  rw [Tryz.ntmps19,Tryz.results19]
  repeat (first | refine oO rfl (by simp only [go_sem,zar]; exact⟨rfl,rfl⟩) ?_ | refine gR ?_ | refine gO ?_ | refine oC rfl (f0) (by simp only [go_sem,zar]; exact iR) (by simp only [go_sem,zar]; exact⟨rfl,rfl⟩) ?_ | refine oC rfl (f1) (by simp only [go_sem,zar]; exact iR) (by simp only [go_sem,zar]; exact⟨rfl,rfl⟩) ?_ | refine oZ (zas ?_) | refine oZ ?_ | refine oS ?_ | refine gT ?_ | refine gD Tryz.mixed ?_ | refine oB ?_ | refine oK ?_ | (refine oX ?_; simp only [zal,zah, ↓reduceIte,Nat.reduceEqDiff,reduceCtorEq]) | refine oY (by simp only [go_sem,zar]; exact iR) ?_ | refine oN (by simp only [go_sem,zar]; exact iR) ?_)
  (refine zaf ?_; show (zao _ _ _).run _=some _; simp only [go_sem,zar])
 rw [h2] at f1
 by_cases h3:60< (x.1.length:Int)
 ·rw [decide_eq_true h3]
  refine zaa Tryz.func19 rfl Tryz.call19 (by rw [Tryz.ntmps19]; simp) ?_
  rw [Tryz.ntmps19,Tryz.results19]
  have F:=h3
  repeat (first | refine oO rfl (by simp only [go_sem,zar,F]; exact⟨rfl,rfl⟩) ?_ | refine gR ?_ | refine gO ?_ | refine oC rfl (f0) (by simp only [go_sem,zar,F]; exact iR) (by simp only [go_sem,zar,F]; exact⟨rfl,rfl⟩) ?_ | refine oC rfl (f1) (by simp only [go_sem,zar,F]; exact iR) (by simp only [go_sem,zar,F]; exact⟨rfl,rfl⟩) ?_ | refine oZ (zas ?_) | refine oZ ?_ | refine oS ?_ | refine gT ?_ | refine gD Tryz.mixed ?_ | refine oB ?_ | refine oK ?_ | (refine oX ?_; simp only [zal,zah, ↓reduceIte,Nat.reduceEqDiff,reduceCtorEq]) | refine oY (by simp only [go_sem,zar,F]; exact iR) ?_ | refine oN (by simp only [go_sem,zar,F]; exact iR) ?_)
  (refine zaf ?_; show (zao _ _ _).run _=some _; simp only [go_sem,zar,F])
 rw [decide_eq_false h3]
 by_cases h4:60< (x.2.2.1.length:Int)
 ·rw [decide_eq_true h4]
  refine zaa Tryz.func19 rfl Tryz.call19 (by rw [Tryz.ntmps19]; simp) ?_
  rw [Tryz.ntmps19,Tryz.results19]
  have F:=ai h3<|h4
  repeat (first | refine oO rfl (by simp only [go_sem,zar,F]; exact⟨rfl,rfl⟩) ?_ | refine gR ?_ | refine gO ?_ | refine oC rfl (f0) (by simp only [go_sem,zar,F]; exact iR) (by simp only [go_sem,zar,F]; exact⟨rfl,rfl⟩) ?_ | refine oC rfl (f1) (by simp only [go_sem,zar,F]; exact iR) (by simp only [go_sem,zar,F]; exact⟨rfl,rfl⟩) ?_ | refine oZ (zas ?_) | refine oZ ?_ | refine oS ?_ | refine gT ?_ | refine gD Tryz.mixed ?_ | refine oB ?_ | refine oK ?_ | (refine oX ?_; simp only [zal,zah, ↓reduceIte,Nat.reduceEqDiff,reduceCtorEq]) | refine oY (by simp only [go_sem,zar,F]; exact iR) ?_ | refine oN (by simp only [go_sem,zar,F]; exact iR) ?_)
  (refine zaf ?_; show (zao _ _ _).run _=some _; simp only [go_sem,zar,F])
 rw [decide_eq_false h4]
 by_cases h5:60< (x.2.1.length:Int)
 ·rw [decide_eq_true h5]
  refine zaa Tryz.func19 rfl Tryz.call19 (by rw [Tryz.ntmps19]; simp) ?_
  rw [Tryz.ntmps19,Tryz.results19]
  have F:=ai h3<|ai h4<|h5
  repeat (first | refine oO rfl (by simp only [go_sem,zar,F]; exact⟨rfl,rfl⟩) ?_ | refine gR ?_ | refine gO ?_ | refine oC rfl (f0) (by simp only [go_sem,zar,F]; exact iR) (by simp only [go_sem,zar,F]; exact⟨rfl,rfl⟩) ?_ | refine oC rfl (f1) (by simp only [go_sem,zar,F]; exact iR) (by simp only [go_sem,zar,F]; exact⟨rfl,rfl⟩) ?_ | refine oZ (zas ?_) | refine oZ ?_ | refine oS ?_ | refine gT ?_ | refine gD Tryz.mixed ?_ | refine oB ?_ | refine oK ?_ | (refine oX ?_; simp only [zal,zah, ↓reduceIte,Nat.reduceEqDiff,reduceCtorEq]) | refine oY (by simp only [go_sem,zar,F]; exact iR) ?_ | refine oN (by simp only [go_sem,zar,F]; exact iR) ?_)
  (refine zaf ?_; show (zao _ _ _).run _=some _; simp only [go_sem,zar,F])
 rw [decide_eq_false h5]
 refine zaa Tryz.func19 rfl Tryz.call19 (by rw [Tryz.ntmps19]; simp) ?_
 rw [Tryz.ntmps19,Tryz.results19]
 have F:=ai h3<|ai h4<|h5
 repeat (first | refine oO rfl (by simp only [go_sem,zar,F]; exact⟨rfl,rfl⟩) ?_ | refine gR ?_ | refine gO ?_ | refine oC rfl (f0) (by simp only [go_sem,zar,F]; exact iR) (by simp only [go_sem,zar,F]; exact⟨rfl,rfl⟩) ?_ | refine oC rfl (f1) (by simp only [go_sem,zar,F]; exact iR) (by simp only [go_sem,zar,F]; exact⟨rfl,rfl⟩) ?_ | refine oZ (zas ?_) | refine oZ ?_ | refine oS ?_ | refine gT ?_ | refine gD Tryz.mixed ?_ | refine oB ?_ | refine oK ?_ | (refine oX ?_; simp only [zal,zah, ↓reduceIte,Nat.reduceEqDiff,reduceCtorEq]) | refine oY (by simp only [go_sem,zar,F]; exact iR) ?_ | refine oN (by simp only [go_sem,zar,F]; exact iR) ?_)
 (refine zaf ?_; show (zao _ _ _).run _=some _; simp only [go_sem,zar,F])
end
section
open Go.RowKit
def woX (c:ChD) (act vars:List Int) (d:Int):WoD:=⟨vars,d,(List.range c.states.length).map fun k:Nat=>act.contains (k:Int)⟩
theorem zpg (c:ChD) (act vars:List Int) (d:Int):(woX c act vars d).act.map bCell=flagA c.states.length act:=by
 unfold woX flagA
 rw [List.map_map]
 rfl
theorem zlr (c:ChD) (act vars:List Int) (d:Int):(woX c act vars d).act.length=c.states.length:=by
 unfold woX
 simp
theorem zjj {c:ChD} (h:Full c) {n:Nat} {t:TrD} (ht:c.trans[n]? =some t):t.guard=[]\/zaH t.guard c.vars.length c.states.length=true:=by
 have:=h.tr n t ht
 unfold zcx at this
 simp only [Bool.and_eq_true,Bool.or_eq_true,beq_iff_eq] at this
 exact this.1.1.2
def rnE (c:ChD) (x:InD) (d:Int):List AV:=[ints34 x.1,ints34 x.2.1, .seq 2 (x.2.2.1.map mmAV), .seq 2 (x.2.2.2.1.map tmAV),B x.2.2.2.2,nilS,nilS, .ref 9 [tabCells c] 0 0,Sg c.name,I c.initial,varsAV c.vars,stsAV c.states,trsAV c.trans,I d,I 0]
structure Asked (c:ChD) (x:InD) (d:Int):Prop where
 act:x.1.length<=1000
 len:x.2.1.length=c.vars.length
 fit: ∀v∈x.2.1,zau v=true
 data:zau d=true
 lg:lgB c x.1=true
theorem Asked.ok {c:ChD} {x:InD} {d:Int} (h:Asked c x d):(woX c x.1 x.2.1 d).Ok:=⟨h.fit,h.data⟩
theorem zpf (env:Env) (c:ChD) (hc:c.states.length<=4000) (x:InD) (d:Int) (hx:Asked c x d):Con Tryz.prog env 226 [.ref 15 [rnE c x d] 0 0] (.agg (woAV (woX c x.1 x.2.1 d))):=by
 have f0:=zfh env c hc x.1 (by have:=hx.act; omega)
 unfold zaj at f0
 unfold woAV
 rw [zpg]
 show Con _ _ _ _ (.agg [ints34 x.2.1,I d, .seq 1 (flagA c.states.length x.1)])
 generalize flagA c.states.length x.1=L at*
 refine zaa Tryz.func226 rfl Tryz.call226 (by rw [Tryz.ntmps226]; simp) ?_
 rw [Tryz.ntmps226,Tryz.results226]
 repeat (first | refine oO rfl (by simp only [go_sem,rnE]; exact⟨rfl,rfl⟩) ?_ | refine gR ?_ | refine gO ?_ | refine oC rfl (f0) (by simp only [go_sem,rnE]; exact iR) (by simp only [go_sem,rnE]; exact⟨rfl,rfl⟩) ?_ | refine oZ (zas ?_) | refine oZ ?_ | refine oS ?_ | refine gT ?_ | refine gD Tryz.mixed ?_ | refine oB ?_ | refine oK ?_ | (refine oX ?_; simp only [zal,zah, ↓reduceIte,Nat.reduceEqDiff,reduceCtorEq]) | refine oY (by simp only [go_sem,rnE]; exact iR) ?_ | refine oN (by simp only [go_sem,rnE]; exact iR) ?_)
 (refine zaf ?_; show (zao _ _ _).run _=some _; simp only [go_sem,rnE])
def fdAV (a2:Addr):Fd->AV
 | .no=> .tuple [I (-1),nilE]
 | .one n=> .tuple [I (n:Nat),nilE]
 | .bad n=> .tuple [I (-1),errV (1000+(n:Nat)) (sentV a2)]
theorem zid {c:ChD} {w:WoD} {n:Nat} {l:List Nat} (h:zcV w (zdZ c n)=none):zbr c w (n::l)= .bad n:=by unfold zbr; rw [h]
theorem zkK {c:ChD} {w:WoD} {n:Nat} {l:List Nat} (h:zcV w (zdZ c n)=some true):zbr c w (n::l)= .one n:=by unfold zbr; rw [h]
theorem znk {c:ChD} {w:WoD} {n:Nat} {l:List Nat} (h:zcV w (zdZ c n)=some false):zbr c w (n::l)=zbr c w l:=by conv=>lhs; unfold zbr; rw [h]
theorem zqX (env:Env) (a1 a2 a8:Addr) (he:ChEnv env a1 a8) (h2:env 2=some (sentV a2)) (c:ChD) (h:Full c) (hs:Small c) (x:InD) (d:Int) (hx:Asked c x d) (l:List Nat) (hl:l.length<=1000) (hk: ∀n∈l,n<c.trans.length):
 Con Tryz.prog env 147 [.ref 15 [rnE c x d] 0 0, .seq 1 (l.map zad)] (fdAV a2 (zbr c (woX c x.1 x.2.1 d) l)):=by
 have hfew:=h.few
 have hftr:=h.ftr
 have f0:=zpf env c (by omega) x d hx
 have g2:=zhf h2
 have hvl:(woX c x.1 x.2.1 d).vars.length<=1000000:=by show x.2.1.length<=_; have:=hx.len; have:=hs.vars; omega
 have f1: ∀(n:Nat) (t:TrD),c.trans[n]? =some t-> ∀b,zcV (woX c x.1 x.2.1 d) t.guard=some b->_:=fun n t ht b hb=>zr0 env a1 a2 a8 he h2 (woX c x.1 x.2.1 d) hx.ok hvl t.guard (by rw [zlr]; show _\/zaH t.guard (x.2.1.length:Int) _=true; rw [hx.len]; exact zjj h ht) b hb
 have f2: ∀(n:Nat) (t:TrD),c.trans[n]? =some t->zcV (woX c x.1 x.2.1 d) t.guard=none->_:=fun n t ht hb=>zpv env a1 a2 a8 he h2 (woX c x.1 x.2.1 d) hx.ok hvl t.guard (by rw [zlr]; show _\/zaH t.guard (x.2.1.length:Int) _=true; rw [hx.len]; exact zjj h ht) hb
 generalize woX c x.1 x.2.1 d=W at*
 unfold woAV at f0 f1 f2
 refine zaa Tryz.func147 rfl Tryz.call147 (by rw [Tryz.ntmps147]; simp) ?_
 rw [Tryz.ntmps147,Tryz.results147]
 repeat refine st0 ?_
 refine zac (D:=Nat) (fun j _=>[(0, .ref 15 [rnE c x d] 0 0),(10, .seq 1 (l.map zad)),(11,I l.length),(12,I j)]) (fun _ _=>[]) (fun j _ _=>j<=l.length/\zbr c W l=zbr c W (l.drop j)) (fun j=>l.length-j) 0 ?_ ?_ ?_ ?_
 ·exact⟨Nat.zero_le _,rfl⟩
 ·(simp only [go_sem])
 ·(simp only [go_sem])
 rintro j vs esc ⟨hj,hq⟩
 by_cases hlt:j<l.length
 ·obtain⟨n,hn⟩: ∃n,l[j]? =some n:=⟨l[j],List.getElem?_eq_getElem hlt⟩
  have hnl:=hk n (List.mem_of_getElem? hn)
  obtain⟨t,ht⟩: ∃t,c.trans[n]? =some t:=⟨c.trans[n],List.getElem?_eq_getElem hnl⟩
  have q1:=nlt hlt
  have q2:=zab hlt (by omega)
  have q3:=nlt hnl
  have q4:IntKind.i64.wrap (1000+(n:Int))=1000+(n:Int):=zaC (by omega) (by omega)
  have hdc:=zcJ hn
  have hga:zdZ c n=t.guard:=by unfold zdZ; rw [ht]
  rw [hdc] at hq
  cases hv:zcV W t.guard with
  | none=>
    rw [zid (by rw [hga]; exact hv)] at hq
    rw [hq]
    have f3:=f2 n t ht hv
    have f4:=zmg env [109,105,99,114,111,46,69,110,97,98,108,101,100] (1000+(n:Int)) a2 (by omega)
    show awp _ _ _ _ _ _
    unfold fdAV
    have F:=ai trAV.eq_1<|ai zad.eq_1<|ai hn<|ai ht<|ai q1<|ai q3<|ai q4<|g2
    repeat (first | refine oO rfl (by simp only [go_sem,rnE,F]; exact⟨rfl,rfl⟩) ?_ | refine gR ?_ | refine gO ?_ | refine oC rfl (f0) (by simp only [go_sem,rnE,F]; exact iR) (by simp only [go_sem,rnE,F]; exact⟨rfl,rfl⟩) ?_ | refine oC rfl (f3) (by simp only [go_sem,rnE,F]; exact iR) (by simp only [go_sem,rnE,F]; exact⟨rfl,rfl⟩) ?_ | refine oC rfl (f4) (by simp only [go_sem,rnE,F]; exact iR) (by simp only [go_sem,rnE,F]; exact⟨rfl,rfl⟩) ?_ | refine oZ (zas ?_) | refine oZ ?_ | refine oS ?_ | refine gT ?_ | refine gD Tryz.mixed ?_ | refine oB ?_ | refine oK ?_ | (refine oX ?_; simp only [zal,zah, ↓reduceIte,Nat.reduceEqDiff,reduceCtorEq]) | refine oY (by simp only [go_sem,rnE,F]; exact iR) ?_ | refine oN (by simp only [go_sem,rnE,F]; exact iR) ?_)
    (refine zaf ?_; show (zao _ _ _).run _=some _; simp only [go_sem,rnE,F])
  | some b=>
    have f3:=f1 n t ht b hv
    cases b with
    | true=>
      rw [zkK (by rw [hga]; exact hv)] at hq
      rw [hq]
      show awp _ _ _ _ _ _
      unfold fdAV
      have F:=ai trAV.eq_1<|ai zad.eq_1<|ai hn<|ai ht<|ai q1<|q3
      repeat (first | refine oO rfl (by simp only [go_sem,rnE,F]; exact⟨rfl,rfl⟩) ?_ | refine gR ?_ | refine gO ?_ | refine oC rfl (f0) (by simp only [go_sem,rnE,F]; exact iR) (by simp only [go_sem,rnE,F]; exact⟨rfl,rfl⟩) ?_ | refine oC rfl (f3) (by simp only [go_sem,rnE,F]; exact iR) (by simp only [go_sem,rnE,F]; exact⟨rfl,rfl⟩) ?_ | refine oZ (zas ?_) | refine oZ ?_ | refine oS ?_ | refine gT ?_ | refine gD Tryz.mixed ?_ | refine oB ?_ | refine oK ?_ | (refine oX ?_; simp only [zal,zah, ↓reduceIte,Nat.reduceEqDiff,reduceCtorEq]) | refine oY (by simp only [go_sem,rnE,F]; exact iR) ?_ | refine oN (by simp only [go_sem,rnE,F]; exact iR) ?_)
      (refine zaf ?_; show (zao _ _ _).run _=some _; simp only [go_sem,rnE,F])
    | false=>
      rw [znk (by rw [hga]; exact hv)] at hq
      have F:=ai trAV.eq_1<|ai zad.eq_1<|ai hn<|ai ht<|ai q1<|ai q2<|q3
      repeat (first | refine oO rfl (by simp only [go_sem,rnE,F]; exact⟨rfl,rfl⟩) ?_ | refine gR ?_ | refine gO ?_ | refine oC rfl (f0) (by simp only [go_sem,rnE,F]; exact iR) (by simp only [go_sem,rnE,F]; exact⟨rfl,rfl⟩) ?_ | refine oC rfl (f3) (by simp only [go_sem,rnE,F]; exact iR) (by simp only [go_sem,rnE,F]; exact⟨rfl,rfl⟩) ?_ | refine oZ (zas ?_) | refine oZ ?_ | refine oS ?_ | refine gT ?_ | refine gD Tryz.mixed ?_ | refine oB ?_ | refine oK ?_ | (refine oX ?_; simp only [zal,zah, ↓reduceIte,Nat.reduceEqDiff,reduceCtorEq]) | refine oY (by simp only [go_sem,rnE,F]; exact iR) ?_ | refine oN (by simp only [go_sem,rnE,F]; exact iR) ?_)
      refine⟨j+1,⟨hlt,hq⟩, ?_, ?_,by omega⟩
      ·(simp only [go_sem,rnE,F])
      ·(simp only [go_sem,rnE,F])
 ·obtain rfl:j=l.length:=by omega
  have q1: ¬(l.length:Int)< (l.length:Int):=by omega
  rw [List.drop_length] at hq
  rw [hq]
  show awp _ _ _ _ _ _
  show awp _ _ _ _ _ _
  unfold zbr fdAV
  have F:=q1
  repeat refine st ?_
  exact aR
theorem zuo (env:Env) (c:ChD) (h:Full c) (x:InD) (d:Int) (k:Int) (ev:List UInt8):Con Tryz.prog env 148 [.ref 15 [rnE c x d] 0 0,I k,Sg ev] (.own 3 1 ((refAtTo c k ev c.trans.length).map zad)):=by
 have hftr:=h.ftr
 by_cases he:ev=[]
 ·subst he
  rw [zob]
  have f0:=zlv env c (by omega) k
  unfold zaj at f0
  refine zaa Tryz.func148 rfl Tryz.call148 (by rw [Tryz.ntmps148]; simp) ?_
  rw [Tryz.ntmps148,Tryz.results148]
  repeat (first | refine oO rfl (by simp only [go_sem,rnE]; exact⟨rfl,rfl⟩) ?_ | refine gR ?_ | refine gO ?_ | refine oC rfl (f0) (by simp only [go_sem,rnE]; exact iR) (by simp only [go_sem,rnE]; exact⟨rfl,rfl⟩) ?_ | refine oZ (zas ?_) | refine oZ ?_ | refine oS ?_ | refine gT ?_ | refine gD Tryz.mixed ?_ | refine oB ?_ | refine oK ?_ | (refine oX ?_; simp only [zal,zah, ↓reduceIte,Nat.reduceEqDiff,reduceCtorEq]) | refine oY (by simp only [go_sem,rnE]; exact iR) ?_ | refine oN (by simp only [go_sem,rnE]; exact iR) ?_)
  (refine zaf ?_; show (zao _ _ _).run _=some _; simp only [go_sem,rnE])
 ·rw [zoa c k he]
  have f0:=zfW env c (by omega) ev
  have f1:=zjO env c (by omega) k (evI c ev)
  have q0:(ev == [])=false:=by simpa using he
  unfold zaj at f0 f1
  refine zaa Tryz.func148 rfl Tryz.call148 (by rw [Tryz.ntmps148]; simp) ?_
  rw [Tryz.ntmps148,Tryz.results148]
  have F:=q0
  repeat (first | refine oO rfl (by simp only [go_sem,rnE,F]; exact⟨rfl,rfl⟩) ?_ | refine gR ?_ | refine gO ?_ | refine oC rfl (f0) (by simp only [go_sem,rnE,F]; exact iR) (by simp only [go_sem,rnE,F]; exact⟨rfl,rfl⟩) ?_ | refine oC rfl (f1) (by simp only [go_sem,rnE,F]; exact iR) (by simp only [go_sem,rnE,F]; exact⟨rfl,rfl⟩) ?_ | refine oZ (zas ?_) | refine oZ ?_ | refine oS ?_ | refine gT ?_ | refine gD Tryz.mixed ?_ | refine oB ?_ | refine oK ?_ | (refine oX ?_; simp only [zal,zah, ↓reduceIte,Nat.reduceEqDiff,reduceCtorEq]) | refine oY (by simp only [go_sem,rnE,F]; exact iR) ?_ | refine oN (by simp only [go_sem,rnE,F]; exact iR) ?_)
  (refine zaf ?_; show (zao _ _ _).run _=some _; simp only [go_sem,rnE,F])
theorem zmS {c:ChD} {k:Int} {ev:List UInt8} {j n:Nat} (h:n∈refAtTo c k ev j):n<j:=List.mem_range.1 (List.mem_filter.1 h).1
theorem zqY {c:ChD} {w:WoD} {ev:List UInt8} {k:Int} {l:List Int} (h:zbr c w (refAtTo c k ev c.trans.length)= .no):zcd c w ev (k::l)=zcd c w ev l:=by
 conv=>lhs; unfold zcd
 rw [h]
theorem znm {c:ChD} {w:WoD} {ev:List UInt8} {k:Int} {l:List Int} {n:Nat} (h:zbr c w (refAtTo c k ev c.trans.length)= .one n):zcd c w ev (k::l)= .one n:=by
 unfold zcd
 rw [h]
theorem znn {c:ChD} {w:WoD} {ev:List UInt8} {k:Int} {l:List Int} {n:Nat} (h:zbr c w (refAtTo c k ev c.trans.length)= .bad n):zcd c w ev (k::l)= .bad n:=by
 unfold zcd
 rw [h]
theorem zsD (env:Env) (a1 a2 a8:Addr) (he:ChEnv env a1 a8) (h2:env 2=some (sentV a2)) (c:ChD) (h:Full c) (hs:Small c) (x:InD) (d:Int) (hx:Asked c x d) (i:Int) (ev:List UInt8):
 Con Tryz.prog env 71 [.ref 15 [rnE c x d] 0 0,I i,Sg ev] (fdAV a2 (zcd c (woX c x.1 x.2.1 d) ev (i::upL c i))):=by
 have hfew:=h.few
 have hftr:=h.ftr
 have f0:=zaL env c
 have f1:Con Tryz.prog env 146 [zaq c,I i] (.own 3 1 ((upL c i).map intAV)):=ziE env c h.toRight i
 have f2:=zuo env c h x d
 have f3:=fun k=>zqX env a1 a2 a8 he h2 c h hs x d hx (refAtTo c k ev c.trans.length) (by have:(refAtTo c k ev c.trans.length).length<=c.trans.length:=zeG (zew c k ev) c.trans.length; omega) (fun n hn=>zmS hn)
 have hul:(upL c i).length<=40:=zeU ..
 have hf:Fits (1+(upL c i).length) 8:=zai (by omega) (by omega)
 have e0:[[I i]]++(upL c i).map intAV=(i::upL c i).map intAV:=rfl
 have hwl:(i::upL c i).length<=4000:=by simp only [List.length_cons]; omega
 have ew:((i::upL c i).map intAV).length=(i::upL c i).length:=List.length_map ..
 generalize woX c x.1 x.2.1 d=W at*
 generalize hR:(i::upL c i)=R at*
 unfold zaq at f0 f1
 unfold zaj at f0
 refine zaa Tryz.func71 rfl Tryz.call71 (by rw [Tryz.ntmps71]; simp) ?_
 rw [Tryz.ntmps71,Tryz.results71]
 have F:=ai hf<|e0
 repeat (first | refine oO rfl (by simp only [go_sem,rnE,F]; exact⟨rfl,rfl⟩) ?_ | refine gR ?_ | refine gO ?_ | refine oC rfl (f0) (by simp only [go_sem,rnE,F]; exact iR) (by simp only [go_sem,rnE,F]; exact⟨rfl,rfl⟩) ?_ | refine oC rfl (f1) (by simp only [go_sem,rnE,F]; exact iR) (by simp only [go_sem,rnE,F]; exact⟨rfl,rfl⟩) ?_ | refine oZ (zas ?_) | refine oZ ?_ | refine oS ?_ | refine gT ?_ | refine gD Tryz.mixed ?_ | refine oB ?_ | refine oK ?_ | (refine oX ?_; simp only [zal,zah, ↓reduceIte,Nat.reduceEqDiff,reduceCtorEq]) | refine oY (by simp only [go_sem,rnE,F]; exact iR) ?_ | refine oN (by simp only [go_sem,rnE,F]; exact iR) ?_)
 refine zac (D:=Nat) (fun j vs=>[(0, .ref 15 [rnE c x d] 0 0),(2,Sg ev),(21, .row 13 (vs 13)),(22,I R.length),(23,I j)]) (fun _ _=>[(13,⟨1,R.map intAV,3,true⟩)]) (fun j _ _=>j<=R.length/\zcd c W ev R=zcd c W ev (R.drop j)) (fun j=>R.length-j) 0 ?_ ?_ ?_ ?_
 ·exact⟨Nat.zero_le _,rfl⟩
 ·(simp only [go_sem,rnE])
 ·(simp only [go_sem,rnE])
 rintro j vs esc ⟨hj,hq⟩
 by_cases hlt:j<R.length
 ·obtain⟨k,hk⟩: ∃k,R[j]? =some k:=⟨R[j],List.getElem?_eq_getElem hlt⟩
  have q1:=nlt hlt
  have q2:=zab hlt (by omega)
  have f4:=f2 k ev
  have f5:=f3 k
  rw [zcJ hk] at hq
  cases hv:zbr c W (refAtTo c k ev c.trans.length) with
  | no=>
    rw [hv] at f5
    unfold fdAV at f5
    rw [zqY hv] at hq
    have F:=ai hk<|ai q1<|q2
    repeat (first | refine oO rfl (by simp only [go_sem,intAV,F]; exact⟨rfl,rfl⟩) ?_ | refine gR ?_ | refine gO ?_ | refine oC rfl (f4) (by simp only [go_sem,intAV,F]; exact iR) (by simp only [go_sem,intAV,F]; exact⟨rfl,rfl⟩) ?_ | refine oC rfl (f5) (by simp only [go_sem,intAV,F]; exact iR) (by simp only [go_sem,intAV,F]; exact⟨rfl,rfl⟩) ?_ | refine oZ (zas ?_) | refine oZ ?_ | refine oS ?_ | refine gT ?_ | refine gD Tryz.mixed ?_ | refine oB ?_ | refine oK ?_ | (refine oX ?_; simp only [zal,zah, ↓reduceIte,Nat.reduceEqDiff,reduceCtorEq]) | refine oY (by simp only [go_sem,intAV,F]; exact iR) ?_ | refine oN (by simp only [go_sem,intAV,F]; exact iR) ?_)
    refine⟨j+1,⟨hlt,hq⟩, ?_, ?_,by omega⟩
    ·(simp only [go_sem,intAV,F])
    ·(simp only [go_sem,intAV,F])
  | one n=>
    rw [hv] at f5
    unfold fdAV at f5
    rw [znm hv] at hq
    rw [hq]
    have q3:(0:Int)<=(n:Int):=by omega
    show awp _ _ _ _ _ _
    unfold fdAV
    have F:=ai hk<|ai q1<|ai q2<|q3
    repeat (first | refine oO rfl (by simp only [go_sem,intAV,F]; exact⟨rfl,rfl⟩) ?_ | refine gR ?_ | refine gO ?_ | refine oC rfl (f4) (by simp only [go_sem,intAV,F]; exact iR) (by simp only [go_sem,intAV,F]; exact⟨rfl,rfl⟩) ?_ | refine oC rfl (f5) (by simp only [go_sem,intAV,F]; exact iR) (by simp only [go_sem,intAV,F]; exact⟨rfl,rfl⟩) ?_ | refine oZ (zas ?_) | refine oZ ?_ | refine oS ?_ | refine gT ?_ | refine gD Tryz.mixed ?_ | refine oB ?_ | refine oK ?_ | (refine oX ?_; simp only [zal,zah, ↓reduceIte,Nat.reduceEqDiff,reduceCtorEq]) | refine oY (by simp only [go_sem,intAV,F]; exact iR) ?_ | refine oN (by simp only [go_sem,intAV,F]; exact iR) ?_)
    (refine zaf ?_; show (zao _ _ _).run _=some _; simp only [go_sem,intAV,F])
  | bad n=>
    rw [hv] at f5
    unfold fdAV at f5
    rw [znn hv] at hq
    rw [hq]
    show awp _ _ _ _ _ _
    unfold fdAV
    have F:=ai hk<|ai q1<|q2
    repeat (first | refine oO rfl (by simp only [go_sem,intAV,F]; exact⟨rfl,rfl⟩) ?_ | refine gR ?_ | refine gO ?_ | refine oC rfl (f4) (by simp only [go_sem,intAV,F]; exact iR) (by simp only [go_sem,intAV,F]; exact⟨rfl,rfl⟩) ?_ | refine oC rfl (f5) (by simp only [go_sem,intAV,F]; exact iR) (by simp only [go_sem,intAV,F]; exact⟨rfl,rfl⟩) ?_ | refine oZ (zas ?_) | refine oZ ?_ | refine oS ?_ | refine gT ?_ | refine gD Tryz.mixed ?_ | refine oB ?_ | refine oK ?_ | (refine oX ?_; simp only [zal,zah, ↓reduceIte,Nat.reduceEqDiff,reduceCtorEq]) | refine oY (by simp only [go_sem,intAV,F]; exact iR) ?_ | refine oN (by simp only [go_sem,intAV,F]; exact iR) ?_)
    (refine zaf ?_; show (zao _ _ _).run _=some _; simp only [go_sem,intAV,F])
 ·obtain rfl:j=R.length:=by omega
  have q1: ¬(R.length:Int)< (R.length:Int):=by omega
  rw [List.drop_length] at hq
  rw [hq]
  show awp _ _ _ _ _ _
  unfold zcd fdAV
  have F:=q1
  repeat refine st ?_
  exact aR
end

end Go.Proofs.YtnbjaghjdeicmaaGreatDoor