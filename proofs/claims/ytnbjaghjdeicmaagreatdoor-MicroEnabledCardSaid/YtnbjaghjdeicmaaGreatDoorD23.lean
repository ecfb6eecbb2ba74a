/- Package value: a stack's step, an expression's value. -/
import Derived.Test.YtnbjaghjdeicmaaGreatDoorD7
import Derived.Test.YtnbjaghjdeicmaaGreatDoorD8
import Derived.Test.YtnbjaghjdeicmaaGreatDoorD6
import Derived.Test.YtnbjaghjdeicmaaGreatDoorD22
import Derived.Test.YtnbjaghjdeicmaaGreatDoorD19
import Derived.Test.YtnbjaghjdeicmaaGreatDoorD20
import Derived.Test.YtnbjaghjdeicmaaGreatDoorD18
import Derived.Test.YtnbjaghjdeicmaaGreatDoorD11
import Derived.Test.YtnbjaghjdeicmaaGreatDoorD21
set_option maxRecDepth 100000
set_option maxHeartbeats 16000000
set_option linter.unusedSimpArgs false
namespace Go.Proofs.YtnbjaghjdeicmaaGreatDoor
section
open Go.RowKit
def bCell (b:Bool):List AV:=[B b]
def woAV (w:WoD):List AV:=[ints34 w.vars,I w.data, .seq 1 (w.act.map bCell)]
theorem zeS {n:Int} (h:zau n=true):IntKind.i64.wrap n=n:=by
 rw [zbj] at h
 exact zaC (by omega) (by omega)
theorem zcQ {n:Int} (h:Big n):IntKind.i64.wrap n=n:=by
 unfold Big at h
 exact zaC (by omega) (by omega)
theorem zdB (env:Env) (b:Bool):Con Tryz.prog env 336 [B b] (I (trI b)):=by
 cases b
 ·show Con _ _ _ _ (I 0)
  refine zaa Tryz.func336 rfl Tryz.call336 (by rw [Tryz.ntmps336]; simp) ?_
  rw [Tryz.ntmps336,Tryz.results336]
  repeat refine st0 ?_
  exact aR0
 ·show Con _ _ _ _ (I 1)
  refine zaa Tryz.func336 rfl Tryz.call336 (by rw [Tryz.ntmps336]; simp) ?_
  rw [Tryz.ntmps336,Tryz.results336]
  repeat refine st0 ?_
  exact aR0
theorem zpt (env:Env) (k a:Int) (hk:k=5\/k=6) (ha:zau a=true):Con Tryz.prog env 328 [I k,I a] (.tuple [I (unI k a),B true]):=by
 have f0:=zdB env (a==0)
 rcases hk with rfl | rfl
 ·have q1:IntKind.i64.wrap (0-a)=unI 5 a:=zeS (zpu 5 ha)
  refine zaa Tryz.func328 rfl Tryz.call328 (by rw [Tryz.ntmps328]; simp) ?_
  rw [Tryz.ntmps328,Tryz.results328]
  have F:=q1
  repeat (first | refine st ?_ | refine cC f0 ?_)
  exact aR
 ·have q1:trI (a==0)=unI 6 a:=rfl
  refine zaa Tryz.func328 rfl Tryz.call328 (by rw [Tryz.ntmps328]; simp) ?_
  rw [Tryz.ntmps328,Tryz.results328]
  have F:=q1
  repeat (first | refine st ?_ | refine cC f0 ?_)
  exact aR
theorem zsc (env:Env) (k a b:Int) (hk:k=8\/k=9) (ha:zau a=true):Con Tryz.prog env 337 [I k,I a,I b] (.tuple [I (binI k a b).1,B (binI k a b).2]):=by
 by_cases hb:b=0
 ·subst hb
  have q1:binI k a 0=(0,false):=by rcases hk with rfl | rfl<;>rfl
  rw [q1]
  refine zaa Tryz.func337 rfl Tryz.call337 (by rw [Tryz.ntmps337]; simp) ?_
  rw [Tryz.ntmps337,Tryz.results337]
  repeat refine st0 ?_
  exact aR0
 have q0:(b==0)=false:=by simpa using hb
 rcases hk with rfl | rfl
 ·have q1:binI 8 a b=(a.tdiv b,true):=by simp [binI,hb]
  have q2:=zeS (zeX (b:=b) ha)
  rw [q1]
  refine zaa Tryz.func337 rfl Tryz.call337 (by rw [Tryz.ntmps337]; simp) ?_
  rw [Tryz.ntmps337,Tryz.results337]
  have F:=ai q0<|ai q2<|hb
  repeat refine st ?_
  exact aR
 ·have q1:binI 9 a b=(a.tmod b,true):=by simp [binI,hb]
  rw [q1]
  refine zaa Tryz.func337 rfl Tryz.call337 (by rw [Tryz.ntmps337]; simp) ?_
  rw [Tryz.ntmps337,Tryz.results337]
  have F:=ai q0<|hb
  repeat refine st ?_
  exact aR
theorem zmq (env:Env) (k a b:Int) (hk:12<=k/\k<=17):Con Tryz.prog env 338 [I k,I a,I b] (B (cmpB k a b)):=by
 obtain rfl | rfl | rfl | rfl | rfl | rfl:k=12\/k=13\/k=14\/k=15\/k=16\/k=17:=by omega
 all_goals (refine zaa Tryz.func338 rfl Tryz.call338 (by rw [Tryz.ntmps338]; simp) ?_
            rw [Tryz.ntmps338,Tryz.results338])
 all_goals (repeat (first | refine oO rfl (by simp only [go_sem,cmpB]; exact⟨rfl,rfl⟩) ?_ | refine gR ?_ | refine gO ?_ | refine oZ (zas ?_) | refine oZ ?_ | refine oS ?_ | refine gT ?_ | refine gD Tryz.mixed ?_ | refine oB ?_ | refine oK ?_ | (refine oX ?_; simp only [zal,zah, ↓reduceIte,Nat.reduceEqDiff,reduceCtorEq]) | refine oY (by simp only [go_sem,cmpB]; exact iR) ?_ | refine oN (by simp only [go_sem,cmpB]; exact iR) ?_))
 all_goals ((refine zaf ?_; show (zao _ _ _).run _=some _; simp only [go_sem,cmpB]))
theorem zo3 (env:Env) (k a b:Int) (hk:7<=k/\k<=19) (ha:zau a=true) (hb:zau b=true):Con Tryz.prog env 329 [I k,I a,I b] (.tuple [I (binI k a b).1,B (binI k a b).2]):=by
 have hbig:=(zjw k ha hb).1
 by_cases h7:k=7
 ·subst h7
  have f0:=za2 env (a*b)
  have q1:IntKind.i64.wrap (a*b)=a*b:=zcQ hbig
  show Con _ _ _ _ (.tuple [I (a*b),B (zau (a*b))])
  refine zaa Tryz.func329 rfl Tryz.call329 (by rw [Tryz.ntmps329]; simp) ?_
  rw [Tryz.ntmps329,Tryz.results329]
  have F:=q1
  repeat (first | refine st ?_ | refine cC f0 ?_)
  exact aR
 by_cases h8:k=8\/k=9
 ·have f0:=zsc env k a b h8 ha
  generalize binI k a b=R at*
  rcases h8 with rfl | rfl
  ·refine zaa Tryz.func329 rfl Tryz.call329 (by rw [Tryz.ntmps329]; simp) ?_
   rw [Tryz.ntmps329,Tryz.results329]
   repeat (first | refine st0 ?_ | refine cC0 f0 ?_)
   exact aR0
  ·refine zaa Tryz.func329 rfl Tryz.call329 (by rw [Tryz.ntmps329]; simp) ?_
   rw [Tryz.ntmps329,Tryz.results329]
   repeat (first | refine st0 ?_ | refine cC0 f0 ?_)
   exact aR0
 by_cases h10:k=10
 ·subst h10
  have f0:=za2 env (a+b)
  have q1:IntKind.i64.wrap (a+b)=a+b:=zcQ hbig
  show Con _ _ _ _ (.tuple [I (a+b),B (zau (a+b))])
  refine zaa Tryz.func329 rfl Tryz.call329 (by rw [Tryz.ntmps329]; simp) ?_
  rw [Tryz.ntmps329,Tryz.results329]
  have F:=q1
  repeat (first | refine st ?_ | refine cC f0 ?_)
  exact aR
 by_cases h11:k=11
 ·subst h11
  have f0:=za2 env (a-b)
  have q1:IntKind.i64.wrap (a-b)=a-b:=zcQ hbig
  show Con _ _ _ _ (.tuple [I (a-b),B (zau (a-b))])
  refine zaa Tryz.func329 rfl Tryz.call329 (by rw [Tryz.ntmps329]; simp) ?_
  rw [Tryz.ntmps329,Tryz.results329]
  have F:=q1
  repeat (first | refine st ?_ | refine cC f0 ?_)
  exact aR
 have hT: ∀t:Bool,Con Tryz.prog env 92 [I (trI t)] (B true):=fun t=>by
  have:=za2 env (trI t)
  rwa [zcX] at this
 by_cases h18:k=18
 ·subst h18
  show Con _ _ _ _ (.tuple [I (trI (a != 0&&b != 0)),B true])
  have f0:=zdB env (a != 0&&b != 0)
  have f1:=hT (a != 0&&b != 0)
  cases h0:(a != 0)
  ·rw [h0] at f0 f1
   refine zaa Tryz.func329 rfl Tryz.call329 (by rw [Tryz.ntmps329]; simp) ?_
   rw [Tryz.ntmps329,Tryz.results329]
   have F:=h0
   repeat (first | refine st ?_ | refine cC f0 ?_ | refine cC f1 ?_)
   exact aR
  ·rw [h0] at f0 f1
   refine zaa Tryz.func329 rfl Tryz.call329 (by rw [Tryz.ntmps329]; simp) ?_
   rw [Tryz.ntmps329,Tryz.results329]
   have F:=h0
   repeat (first | refine st ?_ | refine cC f0 ?_ | refine cC f1 ?_)
   exact aR
 by_cases h19:k=19
 ·subst h19
  show Con _ _ _ _ (.tuple [I (trI (a != 0||b != 0)),B true])
  have f0:=zdB env (a != 0||b != 0)
  have f1:=hT (a != 0||b != 0)
  cases h0:(a != 0)
  ·rw [h0] at f0 f1
   refine zaa Tryz.func329 rfl Tryz.call329 (by rw [Tryz.ntmps329]; simp) ?_
   rw [Tryz.ntmps329,Tryz.results329]
   have F:=h0
   repeat (first | refine st ?_ | refine cC f0 ?_ | refine cC f1 ?_)
   exact aR
  ·rw [h0] at f0 f1
   refine zaa Tryz.func329 rfl Tryz.call329 (by rw [Tryz.ntmps329]; simp) ?_
   rw [Tryz.ntmps329,Tryz.results329]
   have F:=h0
   repeat (first | refine st ?_ | refine cC f0 ?_ | refine cC f1 ?_)
   exact aR
 have q1:binI k a b=(trI (cmpB k a b),true):=by
  unfold binI
  rw [if_neg h7,if_neg (by omega),if_neg (by omega),if_neg h10,if_neg h11,if_neg h18,if_neg h19]
 rw [q1]
 have f0:=zmq env k a b (by omega)
 have f1:=zdB env (cmpB k a b)
 have f2:=hT (cmpB k a b)
 generalize cmpB k a b=R at*
 obtain rfl | rfl | rfl | rfl | rfl | rfl:k=12\/k=13\/k=14\/k=15\/k=16\/k=17:=by omega
 all_goals (refine zaa Tryz.func329 rfl Tryz.call329 (by rw [Tryz.ntmps329]; simp) ?_
            rw [Tryz.ntmps329,Tryz.results329])
 all_goals (repeat (first | refine st0 ?_ | refine cC0 f0 ?_ | refine cC0 f1 ?_ | refine cC0 f2 ?_))
 all_goals ((refine zaf ?_; show (zao _ _ _).run _=some _; simp only [go_sem]))
theorem zsr (env:Env) (w:WoD) (o:OpD) (hk:1<=o.kind/\o.kind<=4) (h:numB o w.vars.length w.act.length=true):Con Tryz.prog env 327 [.agg (opAV o), .agg (woAV w)] (I (leafI w o)):=by
 obtain⟨k,n⟩:=o
 simp only at hk
 unfold leafI
 unfold numB at h
 simp only at h |-
 obtain rfl | rfl | rfl | rfl:k=1\/k=2\/k=3\/k=4:=by omega
 ·show Con _ _ _ _ (I n)
  refine zaa Tryz.func327 rfl Tryz.call327 (by rw [Tryz.ntmps327]; simp) ?_
  rw [Tryz.ntmps327,Tryz.results327]
  have F:=opAV.eq_1
  repeat (first | refine oO rfl (by simp only [go_sem,woAV,F]; exact⟨rfl,rfl⟩) ?_ | refine gR ?_ | refine gO ?_ | refine oZ (zas ?_) | refine oZ ?_ | refine oS ?_ | refine gT ?_ | refine gD Tryz.mixed ?_ | refine oB ?_ | refine oK ?_ | (refine oX ?_; simp only [zal,zah, ↓reduceIte,Nat.reduceEqDiff,reduceCtorEq]) | refine oY (by simp only [go_sem,woAV,F]; exact iR) ?_ | refine oN (by simp only [go_sem,woAV,F]; exact iR) ?_)
  (refine zaf ?_; show (zao _ _ _).run _=some _; simp only [go_sem,woAV,F])
 ·have h:0<=n/\n<w.vars.length:=by simpa using h
  obtain⟨m,rfl⟩:=zcU h.1
  have q1:(m:Int)< (w.vars.length:Int):=h.2
  have q2:w.vars[m]? =some (w.vars.getD m 0):=by rw [List.getD_eq_getElem?_getD,List.getElem?_eq_getElem (by omega)]; rfl
  show Con _ _ _ _ (I (w.vars.getD ((m:Int).toNat) 0))
  rw [Int.toNat_natCast]
  refine zaa Tryz.func327 rfl Tryz.call327 (by rw [Tryz.ntmps327]; simp) ?_
  rw [Tryz.ntmps327,Tryz.results327]
  have F:=ai opAV.eq_1<|ai q1<|q2
  repeat (first | refine oO rfl (by simp only [go_sem,woAV,intAV,F]; exact⟨rfl,rfl⟩) ?_ | refine gR ?_ | refine gO ?_ | refine oZ (zas ?_) | refine oZ ?_ | refine oS ?_ | refine gT ?_ | refine gD Tryz.mixed ?_ | refine oB ?_ | refine oK ?_ | (refine oX ?_; simp only [zal,zah, ↓reduceIte,Nat.reduceEqDiff,reduceCtorEq]) | refine oY (by simp only [go_sem,woAV,intAV,F]; exact iR) ?_ | refine oN (by simp only [go_sem,woAV,intAV,F]; exact iR) ?_)
  (refine zaf ?_; show (zao _ _ _).run _=some _; simp only [go_sem,woAV,intAV,F])
 ·show Con _ _ _ _ (I w.data)
  refine zaa Tryz.func327 rfl Tryz.call327 (by rw [Tryz.ntmps327]; simp) ?_
  rw [Tryz.ntmps327,Tryz.results327]
  have F:=opAV.eq_1
  repeat (first | refine oO rfl (by simp only [go_sem,woAV,F]; exact⟨rfl,rfl⟩) ?_ | refine gR ?_ | refine gO ?_ | refine oZ (zas ?_) | refine oZ ?_ | refine oS ?_ | refine gT ?_ | refine gD Tryz.mixed ?_ | refine oB ?_ | refine oK ?_ | (refine oX ?_; simp only [zal,zah, ↓reduceIte,Nat.reduceEqDiff,reduceCtorEq]) | refine oY (by simp only [go_sem,woAV,F]; exact iR) ?_ | refine oN (by simp only [go_sem,woAV,F]; exact iR) ?_)
  (refine zaf ?_; show (zao _ _ _).run _=some _; simp only [go_sem,woAV,F])
 ·have h:0<=n/\n<w.act.length:=by simpa using h
  obtain⟨m,rfl⟩:=zcU h.1
  have q1:(m:Int)< (w.act.length:Int):=h.2
  have q2:w.act[m]? =some (w.act.getD m false):=by rw [List.getD_eq_getElem?_getD,List.getElem?_eq_getElem (by omega)]; rfl
  show Con _ _ _ _ (I (trI (w.act.getD ((m:Int).toNat) false)))
  rw [Int.toNat_natCast]
  have f0:=zdB env (w.act.getD m false)
  generalize w.act.getD m false=t at*
  refine zaa Tryz.func327 rfl Tryz.call327 (by rw [Tryz.ntmps327]; simp) ?_
  rw [Tryz.ntmps327,Tryz.results327]
  have F:=ai opAV.eq_1<|ai q1<|q2
  repeat (first | refine oO rfl (by simp only [go_sem,woAV,bCell,F]; exact⟨rfl,rfl⟩) ?_ | refine gR ?_ | refine gO ?_ | refine oC rfl (f0) (by simp only [go_sem,woAV,bCell,F]; exact iR) (by simp only [go_sem,woAV,bCell,F]; exact⟨rfl,rfl⟩) ?_ | refine oZ (zas ?_) | refine oZ ?_ | refine oS ?_ | refine gT ?_ | refine gD Tryz.mixed ?_ | refine oB ?_ | refine oK ?_ | (refine oX ?_; simp only [zal,zah, ↓reduceIte,Nat.reduceEqDiff,reduceCtorEq]) | refine oY (by simp only [go_sem,woAV,bCell,F]; exact iR) ?_ | refine oN (by simp only [go_sem,woAV,bCell,F]; exact iR) ?_)
  (refine zaf ?_; show (zao _ _ _).run _=some _; simp only [go_sem,woAV,bCell,F])
end
section
open Go.RowKit
theorem ztT {c:ChD} {act:List Int} (h:lgB c act=true): ∃l:List Nat,act=zL l/\ ∀k∈l,k<c.states.length:=by
 have h1:=(zqu.1 h).1
 have hr: ∀x∈act,0<=x/\x< (c.states.length:Int):=fun x hx=>by
  obtain⟨n,hn,e⟩:=List.getElem_of_mem hx
  have:=h1 n hn
  rw [zja (List.getElem?_eq_some_iff.2 ⟨hn,e⟩),Bool.and_eq_true] at this
  have h2:=this.2
  cases hz:inZ c x with
  | false=>rw [zgs hz] at h2; cases h2
  | true=>exact zak.1 hz
 refine⟨act.map Int.toNat, ?_,fun k hk=> ?_⟩
 ·unfold zL
  rw [List.map_map]
  refine((List.map_congr_left fun x hx=> ?_).trans (List.map_id act)).symm
  have:=hr x hx
  show ((x.toNat:Nat):Int)=x
  omega
 ·obtain⟨x,hx,rfl⟩:=List.mem_map.1 hk
  have:=hr x hx
  omega
def innP (c:ChD) (l:List Nat) (k:Nat):Bool:=manyI (zL l) (kidsL c k true)==0
def lnTo (c:ChD) (l:List Nat) (j:Nat):List Nat:=(l.take j).filter (innP c l)
def innL (c:ChD) (l:List Nat):List Nat:=sortL c (zL (lnTo c l l.length))
theorem zkp {c:ChD} {l:List Nat} {j k:Nat} (h:l[j]? =some k):lnTo c l (j+1)=if innP c l k then lnTo c l j++[k] else lnTo c l j:=by
 unfold lnTo
 rw [List.take_add_one,h,List.filter_append]
 cases hb:innP c l k<;>simp [hb]
theorem zgp (c:ChD) (l:List Nat) (j:Nat):(lnTo c l j).length<=l.length:=by
 unfold lnTo
 exact Nat.le_trans (List.length_filter_le ..) (by rw [List.length_take]; omega)
theorem zl6 (env:Env) (c:ChD) (h:Full c) (l:List Nat) (hl:l.length<=1000) (hk: ∀k∈l,k<c.states.length):Con Tryz.prog env 145 [zaj c, .seq 1 (l.map zad)] (.own 3 1 ((innL c l).map zad)):=by
 have hlen:=h.few
 have f0:=zfh env c (by omega) (zL l) (by rw [zcn]; omega)
 rw [zcP] at f0
 have f1:=fun k:Nat=>zbA env c h k
 have f2:=fun k:Nat=>zi9 env c.states.length (zL l) (kidsL c k true) (by omega) (by have:=zbb h.toRight k true; omega) (fun j hj=>by have:=za5 h.toRight (zaW hj).1; omega)
 have f3:=zaL env c
 have f4:=zcw env c h.toRight (zL (lnTo c l l.length)) (by rw [zcn]; have:=zgp c l l.length; omega)
 rw [zcP] at f4
 show Con _ _ _ _ (.own _ 1 ((sortL c (zL (lnTo c l l.length))).map zad))
 generalize sortL c (zL (lnTo c l l.length))=R at*
 unfold zaq at f3 f4
 unfold zaj at f0 f1 f3 |-
 generalize hFL:flagA c.states.length (zL l)=FL at*
 try clear hFL
 refine zaa Tryz.func145 rfl Tryz.call145 (by rw [Tryz.ntmps145]; simp) ?_
 rw [Tryz.ntmps145,Tryz.results145]
 repeat refine st0 ?_
 refine zaX 5 5 3 1 ?_
 refine zac (D:=Nat) (fun j vs=>[(0, .ref 9 [tabCells c] 0 0),(1, .seq 1 (l.map zad)),(5, .row 5 (vs 5)),(8, .seq 1 (l.map zad)),(9,I l.length),(10,I j)]) (fun j _=>[(5,⟨1,(lnTo c l j).map zad,3,true⟩)]) (fun j _ esc=>j<=l.length/\esc 5=false) (fun j=>l.length-j) 0 ?_ ?_ ?_ ?_
 ·exact⟨Nat.zero_le _,rfl⟩
 ·(simp only [go_sem])
 ·(simp only [go_sem])
  try rfl
 rintro j ws esc ⟨hj,e0⟩
 by_cases hlt:j<l.length
 ·obtain⟨k,hx⟩: ∃k,l[j]? =some k:=⟨l[j],List.getElem?_eq_getElem hlt⟩
  have hkl:=hk k (List.mem_of_getElem? hx)
  have q1:=nlt hlt
  have q2:=zab hlt (by omega)
  have f1:=f1 k
  rw [if_pos (.inr (zaS.2 hkl))] at f1
  have f2:=f2 k
  have hle:=zgp c l j
  have hf:Fits ((lnTo c l j).length+1) 8:=zai (by omega) (by omega)
  have hn:=zkp (c:=c) hx
  have hp:innP c l k=(manyI (zL l) (kidsL c k true)==0):=rfl
  cases hb:innP c l k with
  | true=>
    rw [hb,if_pos rfl] at hn
    rw [hb] at hp
    have b0:(((manyI (zL l) (kidsL c k true):Nat):Int)==0)=true:=by
     have:=beq_iff_eq.1 hp.symm
     simp; omega
    have F:=ai zad.eq_1<|ai hx<|ai q1<|ai q2<|ai b0<|ai hf<|e0
    repeat (first | refine st ?_ | refine cC f0 ?_ | refine cC f1 ?_ | refine cC f2 ?_)
    refine⟨j+1,⟨hlt,by simp only [go_sem,e0]⟩, ?_, ?_,by omega⟩
    ·(simp only [go_sem,F])
    ·have F:=ai zad.eq_1<|hn
     (simp only [go_sem,List.map_append,F])
  | false=>
    rw [hb,if_neg Bool.false_ne_true] at hn
    rw [hb] at hp
    have b0:(((manyI (zL l) (kidsL c k true):Nat):Int)==0)=false:=by
     have: ¬manyI (zL l) (kidsL c k true)=0:=fun q=>by rw [q] at hp; cases hp
     simp; omega
    have F:=ai zad.eq_1<|ai hx<|ai q1<|ai q2<|ai b0<|e0
    repeat (first | refine st ?_ | refine cC f0 ?_ | refine cC f1 ?_ | refine cC f2 ?_)
    refine⟨j+1,⟨hlt,by simp only [go_sem,e0]⟩, ?_, ?_,by omega⟩
    ·(simp only [go_sem,F])
    ·have F:=ai zad.eq_1<|hn
     (simp only [go_sem,F])
 ·obtain rfl:j=l.length:=by omega
  have q1: ¬(l.length:Int)< (l.length:Int):=by omega
  have F:=ai q1<|e0
  repeat (first | refine st ?_ | refine cC f3 ?_ | refine cC f4 ?_)
  exact aR
theorem zj5 (env:Env) (c:ChD) (h:Full c) (l:List Nat) (hl:l.length<=1000) (hk: ∀k∈l,k<c.states.length):Con Tryz.prog env 99 [.agg (chAV c), .seq 1 (l.map zad)] (.own 3 1 ((innL c l).map zad)):=by
 have hlen:=h.few
 have _u:=hk
 have f1:=fun k:Nat=>zbf env c k true (by omega)
 have f2:=fun k:Nat=>zdQ env (zL l) (kidsL c k true) (by rw [zcn]; omega) (by have:=zbb h.toRight k true; omega)
 rw [zcP] at f2
 have f4:=zj2 env c h.toRight (lnTo c l l.length) (by have:=zgp c l l.length; omega)
 show Con _ _ _ _ (.own _ 1 ((sortL c (zL (lnTo c l l.length))).map zad))
 generalize sortL c (zL (lnTo c l l.length))=R at*
 refine zaa Tryz.func99 rfl Tryz.call99 (by rw [Tryz.ntmps99]; simp) ?_
 rw [Tryz.ntmps99,Tryz.results99]
 have F:=chAV.eq_1
 repeat refine st ?_
 refine zac (D:=Nat) (fun j vs=>[(1, .seq 1 (l.map zad)),(2, .loc 2 (vs 2) 0 0),(5, .row 7 (vs 7)),(6,I j)]) (fun j _=>[(2,⟨5,[chAV c],26,false⟩),(7,⟨1,(lnTo c l j).map zad,3,true⟩)]) (fun j _ esc=>j<=l.length/\esc 7=false) (fun j=>l.length-j) 0 ?_ ?_ ?_ ?_
 ·exact⟨Nat.zero_le _,rfl⟩
 ·(simp only [go_sem,F])
 ·have F:=chAV.eq_1
  (simp only [go_sem,F])
  try rfl
 rintro j ws esc ⟨hj,e0⟩
 by_cases hlt:j<l.length
 ·obtain⟨k,hx⟩: ∃k,l[j]? =some k:=⟨l[j],List.getElem?_eq_getElem hlt⟩
  have q1:=nlt hlt
  have q2:=zab hlt (by omega)
  have f1:=f1 k
  have f2:=f2 k
  have hle:=zgp c l j
  have hf:Fits ((lnTo c l j).length+1) 8:=zai (by omega) (by omega)
  have hn:=zkp (c:=c) hx
  have hp:innP c l k=(manyI (zL l) (kidsL c k true)==0):=rfl
  cases hb:innP c l k with
  | true=>
    rw [hb,if_pos rfl] at hn
    rw [hb] at hp
    have b0:(((manyI (zL l) (kidsL c k true):Nat):Int)==0)=true:=by
     have:=beq_iff_eq.1 hp.symm
     simp; omega
    have F:=ai chAV.eq_1<|ai zad.eq_1<|ai hx<|ai q1<|ai q2<|ai b0<|ai hf<|e0
    repeat (first | refine st ?_ | refine cC f1 ?_ | refine cC f2 ?_)
    refine⟨j+1,⟨hlt,by simp only [go_sem,e0]⟩, ?_, ?_,by omega⟩
    ·(simp only [go_sem,F])
    ·have F:=ai chAV.eq_1<|ai zad.eq_1<|hn
     (simp only [go_sem,List.map_append,F])
  | false=>
    rw [hb,if_neg Bool.false_ne_true] at hn
    rw [hb] at hp
    have b0:(((manyI (zL l) (kidsL c k true):Nat):Int)==0)=false:=by
     have: ¬manyI (zL l) (kidsL c k true)=0:=fun q=>by rw [q] at hp; cases hp
     simp; omega
    have F:=ai chAV.eq_1<|ai zad.eq_1<|ai hx<|ai q1<|ai q2<|ai b0<|e0
    repeat (first | refine st ?_ | refine cC f1 ?_ | refine cC f2 ?_)
    refine⟨j+1,⟨hlt,by simp only [go_sem,e0]⟩, ?_, ?_,by omega⟩
    ·(simp only [go_sem,F])
    ·have F:=ai chAV.eq_1<|ai zad.eq_1<|hn
     (simp only [go_sem,F])
 ·obtain rfl:j=l.length:=by omega
  have q1: ¬(l.length:Int)< (l.length:Int):=by omega
  have F:=ai chAV.eq_1<|ai q1<|e0
  repeat (first | refine st ?_ | refine cC f4 ?_)
  exact aR
theorem zkc (env:Env) (a1 a8:Addr) (he:ChEnv env a1 a8) (c:ChD) (h:Full c) (hsm:Small c) (l:List Nat) (hl:l.length<=1000) (hk: ∀k∈l,k<c.states.length) (hb:lgB c (zL l)=true):Con Tryz.prog env 70 [zaj c, .seq 1 (l.map zad)] (.tuple [.seq 1 ((innL c l).map zad),nilE]):=by
 have f0:=zcf env a1 a8 he c h hsm (zL l) (by rw [zcn]; omega)
 unfold chkE at f0
 rw [if_pos hb,zcP] at f0
 have f1:=zl6 env c h l hl hk
 unfold zaj at f0 f1 |-
 generalize innL c l=R at*
 refine zaa Tryz.func70 rfl Tryz.call70 (by rw [Tryz.ntmps70]; simp) ?_
 rw [Tryz.ntmps70,Tryz.results70]
 repeat (first | refine st0 ?_ | refine cC0 f0 ?_ | refine cC0 f1 ?_)
 exact aR0
end
section
open Go.RowKit
def zcV (w:WoD) (g:List OpD):Option Bool:=if g=[] then some true else(zmi w g).map fun n=>n != 0
def zdZ (c:ChD) (n:Nat):List OpD:=match c.trans[n]? with
 | some t=>t.guard
 | none=>[]
def trAt (c:ChD) (n:Nat):TrD:=c.trans.getD n ⟨0,[],[],[],0⟩
theorem zdD {c:ChD} {n:Nat} {t:TrD} (h:c.trans[n]? =some t):trAt c n=t:=by
 unfold trAt
 rw [List.getD_eq_getElem?_getD,h]
 rfl
inductive Fd where
 | no
 | one (n:Nat)
 | bad (n:Nat)
def zbr (c:ChD) (w:WoD):List Nat->Fd
 | []=> .no
 | n::l=>match zcV w (zdZ c n) with
   | none=> .bad n
   | some true=> .one n
   | some false=>zbr c w l
def zcd (c:ChD) (w:WoD) (ev:List UInt8):List Int->Fd
 | []=> .no
 | k::l=>match zbr c w (refAtTo c k ev c.trans.length) with
   | .no=>zcd c w ev l
   | r=>r
def zbI (c:ChD) (w:WoD) (ev:List UInt8):List Nat->List Nat->Except Nat (List Nat)
 | [],o=> .ok o
 | i::l,o=>match zcd c w ev ((i:Int)::upL c i) with
   | .bad n=> .error n
   | .no=>zbI c w ev l o
   | .one n=>zbI c w ev l (if o.contains n then o else o++[n])
def zbz (c:ChD) (act:List Int) (a b:Nat):Bool:=(leaveR c act (trAt c a)).any fun i=>(leaveR c act (trAt c b)).contains i
def zgg (c:ChD) (act:List Int) (n k:Nat):Bool:= !zbz c act k n||aboveB c (trAt c k).src (trAt c n).src
def takeL (c:ChD) (act:List Int) (l:List Nat) (n:Nat):List Nat:=if l.all (zgg c act n) then(l.filter fun k=> !zbz c act k n)++[n] else l
def zpy (c:ChD) (act:List Int) (l:List Nat):List Nat:=l.foldl (takeL c act) []
def zk7 (c:ChD) (act:List Int) (w:WoD) (ev:List UInt8) (inn:List Nat):Except Nat (List Nat):=match zbI c w ev inn [] with
 | .ok l=> .ok (zpy c act l)
 | .error n=> .error n
structure Fit (c:ChD) (act:List Int) (l:List Nat):Prop where
 real: ∀n∈l,∃t,c.trans[n]? =some t/\t.src∈act
 two:l.Pairwise fun k n=>k≠n/\zbz c act k n=false
theorem Fit.nil (c:ChD) (act:List Int):Fit c act []:=⟨fun _ h=>by simp at h, .nil⟩
theorem Fit.take {c:ChD} {act:List Int} {l:List Nat} (h:Fit c act l) {n:Nat} (hn: ∃t,c.trans[n]? =some t/\t.src∈act) (hl:n∉l):Fit c act (takeL c act l n):=by
 unfold takeL
 split
 ·refine⟨fun m hm=> ?_, ?_⟩
  ·rcases List.mem_append.1 hm with hm | hm
   ·exact h.real m (List.mem_filter.1 hm).1
   ·rw [List.mem_singleton.1 hm]; exact hn
  ·refine List.pairwise_append.2 ⟨h.two.sublist List.filter_sublist,List.pairwise_singleton ..,fun a ha b hb=> ?_⟩
   rw [List.mem_singleton.1 hb]
   obtain⟨h1,h2⟩:=List.mem_filter.1 ha
   exact⟨fun e=>hl (e ▸ h1),by simpa using h2⟩
 ·exact h
theorem ziI {c:ChD} {act:List Int} {l:List Nat} {n m:Nat} (h:m∈takeL c act l n):m∈l\/m=n:=by
 unfold takeL at h
 split at h
 ·rcases List.mem_append.1 h with h | h
  ·exact .inl (List.mem_filter.1 h).1
  ·exact .inr (List.mem_singleton.1 h)
 ·exact .inl h
theorem zni {c:ChD} {act:List Int} : ∀(l:List Nat) (o:List Nat),Fit c act o->(∀n∈l,∃t,c.trans[n]? =some t/\t.src∈act)->l.Nodup->(∀n∈l,n∉o)->Fit c act (l.foldl (takeL c act) o)
 | [],o,h,_,_,_=>h
 | n::l,o,h,hl,hn,ho=>by
   obtain⟨n1,n2⟩:=List.nodup_cons.1 hn
   refine zni l _ (h.take (hl n (by simp)) (ho n (by simp))) (fun m hm=>hl m (by simp [hm])) n2 fun m hm hh=> ?_
   rcases ziI hh with e | e
   ·exact ho m (by simp [hm]) e
   ·exact n1 (e ▸ hm)
theorem znl {c:ChD} {w:WoD} {n:Nat} : ∀ {l:List Nat},zbr c w l= .one n->n∈l
 | [],h=>by simp [zbr] at h
 | k::l,h=>by
   unfold zbr at h
   split at h
   ·cases h
   ·cases h; simp
   ·exact List.mem_cons_of_mem _ (znl h)
theorem zme {c:ChD} {w:WoD} {ev:List UInt8} {n:Nat} : ∀ {l:List Int},zcd c w ev l= .one n-> ∃k∈l,∃t,c.trans[n]? =some t/\t.src=k/\t.event=ev
 | [],h=>by simp [zcd] at h
 | k::l,h=>by
   unfold zcd at h
   split at h
   ·obtain⟨j,hj,q⟩:=zme h
    exact⟨j,List.mem_cons_of_mem _ hj,q⟩
   ·rename_i r hr
    have:=znl h
    unfold refAtTo at this
    obtain⟨h1,h2⟩:=List.mem_filter.1 this
    unfold zew at h2
    cases ht:c.trans[n]? with
    | none=>rw [ht] at h2; cases h2
    | some t=>
      rw [ht] at h2
      simp only [decide_eq_true_eq] at h2
      exact⟨k,by simp,t,rfl,h2.1,h2.2⟩
theorem zjm {c:ChD} (h:Full c) {act:List Int} (hg:Lg c act) {w:WoD} {ev:List UInt8} : ∀(l o f:List Nat),zbI c w ev l o= .ok f->(∀i∈l,(i:Int)∈act)->(∀n∈o,∃t,c.trans[n]? =some t/\t.src∈act/\t.event=ev)->o.Nodup->(∀n∈f,∃t,c.trans[n]? =some t/\t.src∈act/\t.event=ev)/\f.Nodup
 | [],o,f,e,_,ho,hn=>by
   simp only [zbI,Except.ok.injEq] at e
   subst e
   exact⟨ho,hn⟩
 | i::l,o,f,e,hl,ho,hn=>by
   unfold zbI at e
   split at e
   ·cases e
   ·exact zjm h hg l o f e (fun j hj=>hl j (by simp [hj])) ho hn
   ·rename_i n hf
    refine zjm h hg l _ f e (fun j hj=>hl j (by simp [hj])) ?_ ?_
    ·obtain⟨k,hk,t,ht,hs,hev⟩:=zme hf
     have hi:=hl i (by simp)
     have hz:=(h.src ht).1
     have hka:t.src∈act:=by
      rw [hs] at hz |-
      rcases List.mem_cons.1 hk with e | hk
      ·rw [e]; exact hi
      ·exact hg.up h.toRight ((i:Int).toNat+1) i k (by omega) hi hk (zak.1 hz).1
     split
     ·exact ho
     ·intro m hm
      rcases List.mem_append.1 hm with hm | hm
      ·exact ho m hm
      ·rw [List.mem_singleton.1 hm]
       exact⟨t,ht,hka,hev⟩
    ·split
     ·exact hn
     ·rename_i hc
      refine List.nodup_append.2 ⟨hn,by simp,fun a ha b hb e=>hc ?_⟩
      rw [List.mem_singleton.1 hb] at e
      rw [List.contains_iff_mem, <-e]
      exact ha
theorem ztZ {c:ChD} (h:Full c) {l:List Nat} (hk: ∀k∈l,k<c.states.length) {i:Nat} (hi:i∈innL c l):i∈l:=by
 have hs: ∀j,j∈lnTo c l l.length->j∈l:=fun j hj=>List.mem_of_mem_take (List.mem_filter.1 hj).1
 have hz:(zL (lnTo c l l.length)).all (inZ c)=true:=List.all_eq_true.2 fun x hx=>by
  obtain⟨j,hj,rfl⟩:=List.mem_map.1 hx
  exact zaS.2 (hk j (hs j hj))
 unfold innL at hi
 rw [zr3 h.toRight hz] at hi
 obtain⟨j,hj,e⟩:=List.mem_map.1 hi
 have:j=i:=by omega
 exact this ▸ hs j hj
theorem zsK {c:ChD} (h:Full c) {act:List Int} (hg:Lg c act) {w:WoD} {ev:List UInt8} {inn f:List Nat} (hi: ∀i∈inn,(i:Int)∈act) (e:zk7 c act w ev inn= .ok f):Fit c act f:=by
 unfold zk7 at e
 split at e
 ·rename_i l hl
  cases e
  obtain⟨h1,h2⟩:=zjm h hg inn [] l hl hi (fun n hn=>by simp at hn) .nil
  exact zni l [] (Fit.nil c act) (fun n hn=>by obtain⟨t,q1,q2,_⟩:=h1 n hn; exact⟨t,q1,q2⟩) h2 (fun n _ hh=>by simp at hh)
 ·cases e
end
section
open Go.RowKit
end
section
open Go.RowKit
theorem ztS {c:ChD} (h:Full c) {mem:List MemD} (hm:zeI c mem=true): ∀m∈mem,m.2≠[]/\m.2.length<=32:=fun m hm'=>by
 have e2:=(zlY hm).2 m hm'
 unfold memB at e2
 split at e2
 ·split at e2
  ·rw [Bool.and_eq_true,decide_eq_true_eq] at e2
   exact⟨fun e=>by rw [e] at e2; simp at e2,by omega⟩
  ·unfold deepB at e2
   simp only [Bool.and_eq_true] at e2
   have hr:=e2.2.1.1.1
   have hnd:m.2.Nodup:=zei hr
   have hin: ∀x∈m.2,inZ c x=true:=fun x hx=>by
    have:=List.all_eq_true.1 e2.2.1.1.2 x hx
    unfold zcp at this
    rw [Bool.and_eq_true] at this
    exact zaT this.1
   have:=zdy hnd hin
   have:=h.toRight.few
   refine⟨fun e=> ?_,by omega⟩
   rw [e] at hr
   cases hr
 ·cases e2
end
section
open Go.RowKit Go.Extern.Stop Go.Stop Go.Extern
end
section
open Go.RowKit
end
section
open Go.RowKit
theorem zms (env:Env) (ad:Nat->Addr) (hS: ∀w,env.inv w->Sents w ad) (k:Nat) (hk:1<=k/\k<=9) (ps:List Int):Con Tryz.prog env 42 [chainV ps (sentV (ad k))] (I k):=
 zmp Tryz.call42 fun w S vs hE hl hv=>by
  match vs,hl with
  | [v],_=>
    have hS:Sents w ad:=hS w hE.inv
    refine(zsT hS k hk ps.length v (znE (zn6 hS k hk) ps v (hv 0 v _ rfl rfl))).mono ?_
    rintro e w' ⟨rfl,rfl⟩
    exact⟨rfl,Below.refl _ _⟩
def zaP (ad:Nat->Addr):Env:=⟨fun g=>if g=9 then some (.lit errT) else zjT ad g,fun w=>(Sents w ad/\TabAt w)/\w.cell? ⟨9,0,none⟩=some errT,fun _ _ h hb=>⟨⟨h.1.1.below hb,h.1.2.below hb⟩,cell_below h.2 hb⟩⟩
theorem zqg {ad:Nat->Addr} {w:World} (h:Sents w ad) (hT:TabAt w) (ht:w.cell? ⟨9,0,none⟩=some errT):EnvOk (zaP ad) (fun b _=>b<w.heap.size) w:=by
 have h0:=zrf (mo:=⟨fun _=>True,fun _ _ _ _=>trivial⟩) h trivial
 refine⟨⟨⟨h,hT⟩,ht⟩,fun b o hb=>hb,fun g c hg=> ?_⟩
 have hg:(if g=9 then some (.lit errT) else zjT ad g)=some c:=hg
 split at hg
 ·rename_i e
  subst e
  cases hg
  exact⟨_,ht,rfl,zfN ht, .lit _⟩
 ·exact h0.env g c hg
theorem zqh (ad:Nat->Addr):ChEnv (zaP ad) (ad 1) (ad 8):=⟨rfl,rfl⟩
theorem zh3 (ad:Nat->Addr): ∀W,(zaP ad).inv W->TabAt W:=fun _ h=>h.1.2
theorem zkh (ad:Nat->Addr): ∀W,(zaP ad).inv W->Sents W ad:=fun _ h=>h.1.1
end
section
open Go.RowKit
end
section
end
section
open Go.RowKit
def ziH (c:ChD) (t:TrD) (mem:List MemD):List Nat:=if t.target<0 then [] else tgtL c t.src t.target mem
theorem zpa (env:Env) (a1 a8:Addr) (he:ChEnv env a1 a8) (c:ChD) (h:Full c) (hs:Small c) (mem:List MemD) (hl:mem.length<=1000000) (hF: ∀m∈mem,Fits m.2.length 8) (k:Nat) (t:TrD) (ht:c.trans[k]? =some t) (hb:zeI c mem=true):Con Tryz.prog env 142 [zaj c,I k,memsAV mem] (.tuple [.seq 1 ((ziH c t mem).map zad),nilE]):=by
 have f0:=zlp env a1 a8 he c h hs mem hl hF
 unfold chkM at f0
 rw [hb,if_pos rfl] at f0
 have f1:=ziF env c hs k t ht
 unfold ziH
 unfold trAV at f1
 by_cases h0:t.target<0
 ·rw [if_pos h0]
  unfold zaj at f0 f1 |-
  refine zan Tryz.func142 rfl Tryz.call142 (by rw [Tryz.ntmps142]; simp) ?_
  rw [Tryz.ntmps142,Tryz.results142]
  have F:=h0
  repeat (first | refine st ?_ | refine cC f0 ?_ | refine cC f1 ?_)
  (refine zaf ?_; refine⟨_,(by show (zao _ _ _).run _=some _; simp only [go_sem,F]; rfl), ?_⟩)
  exact .of (.tuple (.cons (.nil 1) (.cons (.refl _) .nil))) (fun _ _ _ h=>by cases h) (fun _ _ _ h=>by cases h)
 ·rw [if_neg h0]
  have htg:inZ c t.target=true:=by
   rcases (h.src ht).2 with e | e
   ·omega
   ·exact e
  have f2:=znV env c h hs t (h.src ht).1 htg mem hl (fun m hm=>by have:=(ztS h hb m hm).2; omega) hb
  unfold trAV at f2
  unfold zaj at f0 f1 f2 |-
  refine zaa Tryz.func142 rfl Tryz.call142 (by rw [Tryz.ntmps142]; simp) ?_
  rw [Tryz.ntmps142,Tryz.results142]
  have F:=h0
  repeat (first | refine st ?_ | refine cC f0 ?_ | refine cC f1 ?_ | refine cC f2 ?_)
  exact aR
end
section
open Go.RowKit
structure RunD where
 act:List Int
 vars:List Int
 mem:List MemD
 tms:List (List UInt8×Int)
 over:Bool
 outs:List Int
 rais:List (List UInt8×Int)
def toR (c:ChD) (mem:List MemD) (ts:List Nat):List Nat:=ts.flatMap fun n=>ziH c (trAt c n) mem
end
section
open Go.RowKit
/-! Timers by their names -/
/-! Actions -/
structure RunSame (r r1:RunD):Prop where
 act:r1.act=r.act
 mem:r1.mem=r.mem
 over:r1.over=r.over
theorem RunSame.rfl {r:RunD} :RunSame r r:=⟨Eq.refl _,Eq.refl _,Eq.refl _⟩
theorem RunSame.trans {r r1 r2:RunD} (h:RunSame r r1) (k:RunSame r1 r2):RunSame r r2:=⟨k.act.trans h.act,k.mem.trans h.mem,k.over.trans h.over⟩
theorem znB {l:List OpD} {vs ss:Int} (h:zaH l vs ss=true):hgt vs ss l 0=some 1/\l.length<=32:=by
 unfold zaH at h
 rw [beq_iff_eq] at h
 unfold zev at h
 split at h
 ·omega
 ·rename_i hl
  split at h
  ·rename_i hh
   exact⟨hh,by omega⟩
  ·omega
end
section
open Go.RowKit
theorem zpC (env:Env) (w:WoD) (o:OpD) (R:List Int) (hs:R.length<=1000) (hk:1<=o.kind/\o.kind<=4) (h:numB o w.vars.length w.act.length=true):Con Tryz.prog env 306 [ints34 R, .agg (opAV o), .agg (woAV w)] (.tuple [ints34 (R++[leafI w o]),B true]):=by
 have f0:=zsr env w o hk h
 have q0:o.kind<=4:=hk.2
 have q1:Fits (R.length+1) 8:=zai (by omega) (by omega)
 have q2:ints34 (R++[leafI w o])= .seq 1 (R.map intAV++[[I (leafI w o)]]):=by rw [show R.map intAV++[[I (leafI w o)]]=(R++[leafI w o]).map intAV by simp]
 rw [q2]
 try clear q2
 generalize leafI w o=v at*
 unfold opAV woAV at f0
 refine zaa Tryz.func306 rfl Tryz.call306 (by rw [Tryz.ntmps306]; simp) ?_
 rw [Tryz.ntmps306,Tryz.results306]
 have F:=ai opAV.eq_1<|ai q0<|q1
 repeat (first | refine oO rfl (by simp only [go_sem,woAV,F]; exact⟨rfl,rfl⟩) ?_ | refine gR ?_ | refine gO ?_ | refine oC rfl (f0) (by simp only [go_sem,woAV,F]; exact iR) (by simp only [go_sem,woAV,F]; exact⟨rfl,rfl⟩) ?_ | refine oZ (zas ?_) | refine oZ ?_ | refine oS ?_ | refine gT ?_ | refine gD Tryz.mixed ?_ | refine oB ?_ | refine oK ?_ | (refine oX ?_; simp only [zal,zah, ↓reduceIte,Nat.reduceEqDiff,reduceCtorEq]) | refine oY (by simp only [go_sem,woAV,F]; exact iR) ?_ | refine oN (by simp only [go_sem,woAV,F]; exact iR) ?_)
 (refine zaf ?_; show (zao _ _ _).run _=some _; simp only [go_sem,woAV,F])
theorem zpB (env:Env) (w:WoD) (o:OpD) (a:Int) (R:List Int) (hs:R.length<=1000) (hk:o.kind=5\/o.kind=6) (ha:zau a=true):Con Tryz.prog env 306 [ints34 (R++[a]), .agg (opAV o), .agg (woAV w)] (.tuple [ints34 (R++[unI o.kind a]),B true]):=by
 have f0:=zpt env o.kind a hk ha
 have q0: ¬o.kind<=4:=by omega
 have q1:o.kind<=6:=by omega
 have q2:Fits (R.length+1) 8:=zai (by omega) (by omega)
 have e1: ∀x:Int,ints34 (R++[x])= .seq 1 (R.map intAV++[[I x]]):=fun x=>by rw [show R.map intAV++[[I x]]=(R++[x]).map intAV by simp]
 rw [e1,e1]
 have q4:(R.map intAV++[[I a]]).length=R.length+1:=by simp
 have q5:(R.map intAV++[[I a]])[R.length]? =some [I a]:=by rw [List.getElem?_append_right (by simp)]; simp
 have q6:(R.map intAV++[[I a]]).take R.length=R.map intAV:=by rw [List.take_append_of_le_length (by simp),List.take_of_length_le (by simp)]
 have q3:IntKind.i64.wrap (((R.length+1:Nat):Int)-1)=(R.length:Int):=(zaC (by omega) (by omega)).trans (by omega)
 have q7:(R.length:Int)< ((R.length+1:Nat):Int):=by omega
 have q8: ¬((R.length:Int)=((R.length+1:Nat):Int)):=by omega
 have q9:(R.length:Int)<=((R.length+1:Nat):Int):=by omega
 generalize R.map intAV++[[I a]]=X at*
 generalize unI o.kind a=v at*
 refine zaa Tryz.func306 rfl Tryz.call306 (by rw [Tryz.ntmps306]; simp) ?_
 rw [Tryz.ntmps306,Tryz.results306]
 have F:=ai opAV.eq_1<|ai q0<|ai q1<|ai q2<|ai q3<|ai q4<|ai q5<|ai q6<|ai q7<|ai q8<|q9
 repeat (first | refine oO rfl (by simp only [go_sem,woAV,F]; exact⟨rfl,rfl⟩) ?_ | refine gR ?_ | refine gO ?_ | refine oC rfl (f0) (by simp only [go_sem,woAV,F]; exact iR) (by simp only [go_sem,woAV,F]; exact⟨rfl,rfl⟩) ?_ | refine oZ (zas ?_) | refine oZ ?_ | refine oS ?_ | refine gT ?_ | refine gD Tryz.mixed ?_ | refine oB ?_ | refine oK ?_ | (refine oX ?_; simp only [zal,zah, ↓reduceIte,Nat.reduceEqDiff,reduceCtorEq]) | refine oY (by simp only [go_sem,woAV,F]; exact iR) ?_ | refine oN (by simp only [go_sem,woAV,F]; exact iR) ?_)
 (refine zaf ?_; show (zao _ _ _).run _=some _; simp only [go_sem,woAV,F])
theorem zpD (env:Env) (w:WoD) (o:OpD) (a b:Int) (R:List Int) (hs:R.length<=1000) (hk:7<=o.kind/\o.kind<=19) (ha:zau a=true) (hb:zau b=true):Con Tryz.prog env 306 [ints34 (R++[a,b]), .agg (opAV o), .agg (woAV w)] (.tuple [ints34 (R++[(binI o.kind a b).1]),B (binI o.kind a b).2]):=by
 have f0:=zo3 env o.kind a b hk ha hb
 have q0: ¬o.kind<=4:=by omega
 have q1: ¬o.kind<=6:=by omega
 have q2:Fits (R.length+1) 8:=zai (by omega) (by omega)
 have e1: ∀x:Int,ints34 (R++[x])= .seq 1 (R.map intAV++[[I x]]):=fun x=>by rw [show R.map intAV++[[I x]]=(R++[x]).map intAV by simp]
 have e2:ints34 (R++[a,b])= .seq 1 (R.map intAV++[[I a],[I b]]):=by rw [show R.map intAV++[[I a],[I b]]=(R++[a,b]).map intAV by simp]
 rw [e1,e2]
 have q4:(R.map intAV++[[I a],[I b]]).length=R.length+2:=by simp
 have q5:(R.map intAV++[[I a],[I b]])[R.length]? =some [I a]:=by rw [List.getElem?_append_right (by simp)]; simp
 have p5:(R.map intAV++[[I a],[I b]])[R.length+1]? =some [I b]:=by rw [List.getElem?_append_right (by simp)]; simp
 have q6:(R.map intAV++[[I a],[I b]]).take R.length=R.map intAV:=by rw [List.take_append_of_le_length (by simp),List.take_of_length_le (by simp)]
 have q3:IntKind.i64.wrap (((R.length+2:Nat):Int)-2)=(R.length:Int):=(zaC (by omega) (by omega)).trans (by omega)
 have p3:IntKind.i64.wrap (((R.length+2:Nat):Int)-1)=((R.length+1:Nat):Int):=(zaC (by omega) (by omega)).trans (by omega)
 have q7:(R.length:Int)< ((R.length+2:Nat):Int):=by omega
 have p7:((R.length+1:Nat):Int)< ((R.length+2:Nat):Int):=by omega
 have q8: ¬((R.length:Int)=((R.length+2:Nat):Int)):=by omega
 have q9:(R.length:Int)<=((R.length+2:Nat):Int):=by omega
 generalize R.map intAV++[[I a],[I b]]=X at*
 generalize binI o.kind a b=v at*
 refine zaa Tryz.func306 rfl Tryz.call306 (by rw [Tryz.ntmps306]; simp) ?_
 rw [Tryz.ntmps306,Tryz.results306]
 have F:=ai opAV.eq_1<|ai q0<|ai q1<|ai q2<|ai q3<|ai p3<|ai q4<|ai q5<|ai p5<|ai q6<|ai q7<|ai p7<|ai q8<|q9
 repeat (first | refine oO rfl (by simp only [go_sem,woAV,F]; exact⟨rfl,rfl⟩) ?_ | refine gR ?_ | refine gO ?_ | refine oC rfl (f0) (by simp only [go_sem,woAV,F]; exact iR) (by simp only [go_sem,woAV,F]; exact⟨rfl,rfl⟩) ?_ | refine oZ (zas ?_) | refine oZ ?_ | refine oS ?_ | refine gT ?_ | refine gD Tryz.mixed ?_ | refine oB ?_ | refine oK ?_ | (refine oX ?_; simp only [zal,zah, ↓reduceIte,Nat.reduceEqDiff,reduceCtorEq]) | refine oY (by simp only [go_sem,woAV,F]; exact iR) ?_ | refine oN (by simp only [go_sem,woAV,F]; exact iR) ?_)
 (refine zaf ?_; show (zao _ _ _).run _=some _; simp only [go_sem,woAV,F])
theorem zfr (env:Env) (w:WoD) (hw:w.Ok) (hl:w.vars.length<=1000000):Con Tryz.prog env 280 [.agg (woAV w)] nilE:=by
 have f0:=za2 env w.data
 rw [hw.data] at f0
 have f1: ∀x∈w.vars,Con Tryz.prog env 92 [I x] (B true):=fun x hx=>by
  have:=za2 env x
  rwa [hw.vars x hx] at this
 refine zaa Tryz.func280 rfl Tryz.call280 (by rw [Tryz.ntmps280]; simp) ?_
 rw [Tryz.ntmps280,Tryz.results280]
 repeat (first | refine oO rfl (by simp only [go_sem,woAV]; exact⟨rfl,rfl⟩) ?_ | refine gR ?_ | refine gO ?_ | refine oC rfl (f0) (by simp only [go_sem,woAV]; exact iR) (by simp only [go_sem,woAV]; exact⟨rfl,rfl⟩) ?_ | refine oZ (zas ?_) | refine oZ ?_ | refine oS ?_ | refine gT ?_ | refine gD Tryz.mixed ?_ | refine oB ?_ | refine oK ?_ | (refine oX ?_; simp only [zal,zah, ↓reduceIte,Nat.reduceEqDiff,reduceCtorEq]) | refine oY (by simp only [go_sem,woAV]; exact iR) ?_ | refine oN (by simp only [go_sem,woAV]; exact iR) ?_)
 refine zac (D:=Nat) (fun j _=>[(3,B true),(10,ints34 w.vars),(11,I w.vars.length),(12,I j)]) (fun _ _=>[]) (fun j _ _=>j<=w.vars.length) (fun j=>w.vars.length-j) 0 ?_ ?_ ?_ ?_
 ·exact Nat.zero_le _
 ·(simp only [go_sem,woAV])
 ·(simp only [go_sem,woAV])
 rintro j vs esc hj
 by_cases hlt:j<w.vars.length
 ·obtain⟨x,hx⟩: ∃x,w.vars[j]? =some x:=⟨w.vars[j],List.getElem?_eq_getElem hlt⟩
  have g1:=nlt hlt
  have g2:=zab hlt (by omega)
  have f2:=f1 x (List.mem_of_getElem? hx)
  have F:=ai g1<|ai g2<|hx
  repeat (first | refine oO rfl (by simp only [go_sem,intAV,F]; exact⟨rfl,rfl⟩) ?_ | refine gR ?_ | refine gO ?_ | refine oC rfl (f2) (by simp only [go_sem,intAV,F]; exact iR) (by simp only [go_sem,intAV,F]; exact⟨rfl,rfl⟩) ?_ | refine oZ (zas ?_) | refine oZ ?_ | refine oS ?_ | refine gT ?_ | refine gD Tryz.mixed ?_ | refine oB ?_ | refine oK ?_ | (refine oX ?_; simp only [zal,zah, ↓reduceIte,Nat.reduceEqDiff,reduceCtorEq]) | refine oY (by simp only [go_sem,intAV,F]; exact iR) ?_ | refine oN (by simp only [go_sem,intAV,F]; exact iR) ?_)
  refine⟨j+1,hlt, ?_, ?_,by omega⟩
  ·(simp only [go_sem,intAV,F])
  ·(simp only [go_sem,intAV,F])
 obtain rfl:j=w.vars.length:=by omega
 have g1: ¬(w.vars.length:Int)< (w.vars.length:Int):=by omega
 have F:=g1
 repeat refine st ?_
 exact aR
def zkW (a2:Addr):Option Int->AV
 | some v=> .tuple [I v,nilE]
 | none=> .tuple [I 0,errV (-1) (sentV a2)]
theorem zhT {vs ss n:Int} {o:OpD} (h:zbt vs ss n o=true):(1<=o.kind/\o.kind<=4/\zae o.kind=0)\/((o.kind=5\/o.kind=6)/\zae o.kind=1/\1<=n)\/(7<=o.kind/\o.kind<=19/\zae o.kind=2/\2<=n):=by
 have h1:=zdI h
 have h2:zae o.kind=0/\1<=o.kind/\o.kind<=4\/zae o.kind=1/\(o.kind=5\/o.kind=6)\/zae o.kind=2/\7<=o.kind/\o.kind<=19\/zae o.kind= -1:=by
  unfold zae
  split
  ·rename_i hh; exact .inl ⟨rfl,hh⟩
  split
  ·rename_i hh; exact .inr (.inl ⟨rfl,hh⟩)
  split
  ·rename_i hh; exact .inr (.inr (.inl ⟨rfl,hh⟩))
  ·exact .inr (.inr (.inr rfl))
 omega
theorem ztg {vs ss n:Int} {o:OpD} (h:zbt vs ss n o=true):numB o vs ss=true:=by
 simp only [zbt,Bool.and_eq_true] at h
 exact h.2
theorem zr4 {w:WoD} {code:List OpD} {i:Nat} {o:OpD} {s:List Int} (h:code[i]? =some o) (hs:runS w (code.take i) []=some s):runS w (code.take (i+1)) []=zdH w o s:=by
 rw [List.take_add_one,h,ze0,hs]
 exact zgk w o s
theorem run_stuck {w:WoD} {code:List OpD} {i:Nat} (h:runS w (code.take i) []=none):runS w code []=none:=by
 rw [<-List.take_append_drop i code,ze0,h]
 rfl
theorem znp (env:Env) (a1 a2 a8:Addr) (he:ChEnv env a1 a8) (h2:env 2=some (sentV a2)) (w:WoD) (hw:w.Ok) (hl:w.vars.length<=1000000) (code:List OpD) (hc:zaH code w.vars.length w.act.length=true):Con Tryz.prog env 277 [opsAV code, .agg (woAV w)] (zkW a2 (zmi w code)):=by
 have f0:=zfr env w hw hl
 have f1:=zey env a1 a8 he code w.vars.length w.act.length
 have g2:=zhf h2
 have f9:=zb4 env [118,97,108,117,101,46,69,118,97,108] a2
 obtain⟨hh,hlen⟩:=znB hc
 have h0:zev code w.vars.length w.act.length=0:=by unfold zaH at hc; simpa using hc
 unfold zd3 at f1
 rw [if_pos h0] at f1
 have hrun:=zsH w hh
 have q0:(w.act.map bCell).length=w.act.length:=List.length_map ..
 have s1: ∀(o:OpD) (R:List Int),R.length<=1000->1<=o.kind/\o.kind<=4->numB o w.vars.length w.act.length=true->_:=fun o R=>zpC env w o R
 have s2: ∀(o:OpD) (a:Int) (R:List Int),_:=fun o a R=>zpB env w o a R
 have s3: ∀(o:OpD) (a b:Int) (R:List Int),_:=fun o a b R=>zpD env w o a b R
 unfold woAV at f0 s1 s2 s3 |-
 refine zaa Tryz.func277 rfl Tryz.call277 (by rw [Tryz.ntmps277]; simp) ?_
 rw [Tryz.ntmps277,Tryz.results277]
 repeat (first | refine st0 ?_ | refine cC0 f0 ?_ | refine cC0 f1 ?_)
 refine zeq (Turned.nil 8 1 (by simp only [go_sem])) ?_
 refine zac (D:=Nat×List Int) (fun d vs=>[(3, .loc 3 (vs 3) 0 0),(8,ints34 d.2.reverse),(31,opsAV code),(32,I code.length),(33,I d.1)]) (fun _ _=>[(3,⟨3,[[ints34 w.vars,I w.data, .seq 1 (w.act.map bCell)]],282,false⟩)]) (fun d _ _=>d.1<=code.length/\runS w (code.take d.1) []=some d.2/\hgt w.vars.length w.act.length code 0=hgt w.vars.length w.act.length (code.drop d.1) d.2.length/\(∀x∈d.2,zau x=true)/\d.2.length<=d.1) (fun d=>code.length-d.1) (0,[]) ?_ ?_ ?_ ?_
 ·exact⟨Nat.zero_le _,rfl,rfl,by simp,Nat.le_refl _⟩
 ·(simp only [go_sem])
  try rfl
 ·(simp only [go_sem])
 rintro⟨i,s⟩ vs esc ⟨hi,hr,hg,hf,hsl⟩
 simp only at hi hr hg hf hsl
 by_cases hlt:i<code.length
 ·obtain⟨o,ho,_⟩:=zat hlt
  obtain⟨up,no⟩:=zjh ho hg
  have k1:=nlt hlt
  have k2:=zab hlt (by omega)
  have hnext:=zr4 (w:=w) ho hr
  have hok:zbt w.vars.length w.act.length s.length o=true:=by
   cases hok:zbt w.vars.length w.act.length s.length o with
   | true=>rfl
   | false=>rw [no hok] at hh; cases hh
  have hg2:=up hok
  have hnum:=ztg hok
  rcases zhT hok with⟨b1,b2,b3⟩ | ⟨b1,b3,b4⟩ | ⟨b1,b2,b3,b4⟩
  ·have f2:=s1 o s.reverse (by rw [List.length_reverse]; omega) ⟨b1,b2⟩ hnum
   have hst:zdH w o s=some (leafI w o::s):=by unfold zdH; rw [if_pos b2]
   rw [hst] at hnext
   have e1:s.reverse++[leafI w o]=(leafI w o::s).reverse:=by simp
   rw [e1] at f2
   have F:=ai opAV.eq_1<|ai ho<|ai k1<|k2
   repeat (first | refine st ?_ | refine cC f2 ?_)
   refine⟨(i+1,leafI w o::s),⟨hlt,hnext, ?_,zgH hw hnum hf hst, ?_⟩, ?_, ?_, ?_⟩
   ·rw [hg2,b3]
    congr 1<;>simp
   ·simp only [List.length_cons]; omega
   ·(simp only [go_sem,F])
   ·(simp only [go_sem,F])
   ·simp only; omega
  ·match s,hr,hg,hf,hsl,hok,hg2,hnext,b4 with
   | a::s,hr,hg,hf,hsl,hok,hg2,hnext,b4=>
     have ha:=hf a (by simp)
     have f2:=s2 o a s.reverse (by rw [List.length_reverse]; simp only [List.length_cons] at hsl; omega) b1 ha
     have hst:zdH w o (a::s)=some (unI o.kind a::s):=by unfold zdH; rw [if_neg (by omega),if_pos (by omega)]
     rw [hst] at hnext
     have e1:s.reverse++[unI o.kind a]=(unI o.kind a::s).reverse:=by simp
     have e2:s.reverse++[a]=(a::s).reverse:=by simp
     rw [e1,e2] at f2
     have F:=ai opAV.eq_1<|ai ho<|ai k1<|k2
     repeat (first | refine st ?_ | refine cC f2 ?_)
     refine⟨(i+1,unI o.kind a::s),⟨hlt,hnext, ?_,zgH hw hnum hf hst, ?_⟩, ?_, ?_, ?_⟩
     ·rw [hg2,b3]
      congr 1<;>simp
     ·simp only [List.length_cons] at hsl |-; omega
     ·(simp only [go_sem,F])
     ·(simp only [go_sem,F])
     ·simp only; omega
  ·match s,hr,hg,hf,hsl,hok,hg2,hnext,b4 with
   | b::a::s,hr,hg,hf,hsl,hok,hg2,hnext,b4=>
     have hb:=hf b (by simp)
     have ha:=hf a (by simp)
     have f2:=s3 o a b s.reverse (by rw [List.length_reverse]; simp only [List.length_cons] at hsl; omega) ⟨b1,b2⟩ ha hb
     have hst:zdH w o (b::a::s)=if (binI o.kind a b).2 then some ((binI o.kind a b).1::s) else none:=by unfold zdH; rw [if_neg (by omega),if_neg (by omega)]
     rw [hst] at hnext
     have e1:s.reverse++[(binI o.kind a b).1]=((binI o.kind a b).1::s).reverse:=by simp
     have e2:s.reverse++[a,b]=(b::a::s).reverse:=by simp
     rw [e1,e2] at f2
     cases hv:(binI o.kind a b).2 with
     | true=>
       rw [hv] at f2 hst hnext
       simp only [if_true] at hst hnext
       have F:=ai opAV.eq_1<|ai ho<|ai k1<|k2
       repeat (first | refine st ?_ | refine cC f2 ?_)
       refine⟨(i+1,(binI o.kind a b).1::s),⟨hlt,hnext, ?_,zgH hw hnum hf hst, ?_⟩, ?_, ?_, ?_⟩
       ·rw [hg2,b3]
        congr 1
        simp only [List.length_cons]
        omega
       ·simp only [List.length_cons] at hsl |-; omega
       ·(simp only [go_sem,F])
       ·(simp only [go_sem,F])
       ·simp only; omega
     | false=>
       rw [hv] at f2 hnext
       simp only [Bool.false_eq_true,if_false] at hnext
       have hn:=run_stuck hnext
       rw [hrun,Option.map_eq_none_iff] at hn
       rw [hn]
       show awp _ _ _ _ _ _
       unfold zkW
       have F:=ai opAV.eq_1<|ai ho<|ai k1<|ai k2<|g2
       repeat (first | refine st ?_ | refine cC f2 ?_ | refine cC f9 ?_)
       exact aR
 ·obtain rfl:i=code.length:=by omega
  have k1: ¬(code.length:Int)< (code.length:Int):=by omega
  have hend:=zma (Nat.le_refl _) hg
  rw [hh] at hend
  rw [List.take_length,hrun] at hr
  obtain⟨v,hv,rfl⟩:=Option.map_eq_some_iff.1 hr
  rw [hv]
  unfold zkW
  have F:=k1
  repeat (first | refine oO rfl (by simp only [go_sem,intAV,List.reverse_cons,List.reverse_nil,F]; exact⟨rfl,rfl⟩) ?_ | refine gR ?_ | refine gO ?_ | refine oZ (zas ?_) | refine oZ ?_ | refine oS ?_ | refine gT ?_ | refine gD Tryz.mixed ?_ | refine oB ?_ | refine oK ?_ | (refine oX ?_; simp only [zal,zah, ↓reduceIte,Nat.reduceEqDiff,reduceCtorEq]) | refine oY (by simp only [go_sem,intAV,List.reverse_cons,List.reverse_nil,F]; exact iR) ?_ | refine oN (by simp only [go_sem,intAV,List.reverse_cons,List.reverse_nil,F]; exact iR) ?_)
  (refine zaf ?_; show (zao _ _ _).run _=some _; simp only [go_sem,intAV,List.reverse_cons,List.reverse_nil,F])
theorem zr0 (env:Env) (a1 a2 a8:Addr) (he:ChEnv env a1 a8) (h2:env 2=some (sentV a2)) (w:WoD) (hw:w.Ok) (hl:w.vars.length<=1000000) (code:List OpD) (hc:code=[]\/zaH code w.vars.length w.act.length=true) (b:Bool) (hb:zcV w code=some b):Con Tryz.prog env 225 [opsAV code, .agg (woAV w)] (.tuple [B b,nilE]):=by
 have f0:=zfr env w hw hl
 have f1:=zgA env [118,97,108,117,101,46,84,114,117,101]
 unfold zcV at hb
 by_cases h0:code=[]
 ·subst h0
  rw [if_pos rfl] at hb
  cases hb
  unfold woAV at f0 |-
  refine zaa Tryz.func225 rfl Tryz.call225 (by rw [Tryz.ntmps225]; simp) ?_
  rw [Tryz.ntmps225,Tryz.results225]
  repeat (first | refine st0 ?_ | refine cC0 f0 ?_ | refine cC0 f1 ?_)
  exact aR0
 rw [if_neg h0] at hb
 have f2:=znp env a1 a2 a8 he h2 w hw hl code (hc.resolve_left h0)
 have hne:((code.length:Int)==0)=false:=by
  have:code.length≠0:=fun e=>h0 (List.length_eq_zero_iff.1 e)
  simp; omega
 obtain⟨v,hv,rfl⟩:=Option.map_eq_some_iff.1 hb
 rw [hv] at f2
 unfold zkW at f2
 unfold woAV at f0 f2 |-
 refine zaa Tryz.func225 rfl Tryz.call225 (by rw [Tryz.ntmps225]; simp) ?_
 rw [Tryz.ntmps225,Tryz.results225]
 have F:=hne
 repeat (first | refine st ?_ | refine cC f2 ?_ | refine cC f1 ?_)
 exact aR
theorem zpv (env:Env) (a1 a2 a8:Addr) (he:ChEnv env a1 a8) (h2:env 2=some (sentV a2)) (w:WoD) (hw:w.Ok) (hl:w.vars.length<=1000000) (code:List OpD) (hc:code=[]\/zaH code w.vars.length w.act.length=true) (hb:zcV w code=none):Con Tryz.prog env 225 [opsAV code, .agg (woAV w)] (.tuple [B false,errV (-1) (errV (-1) (sentV a2))]):=by
 have f0:=zfr env w hw hl
 have f1:=zmI env [118,97,108,117,101,46,84,114,117,101] (-1) (sentV a2)
 unfold zcV at hb
 by_cases h0:code=[]
 ·rw [if_pos h0] at hb
  cases hb
 rw [if_neg h0,Option.map_eq_none_iff] at hb
 have f2:=znp env a1 a2 a8 he h2 w hw hl code (hc.resolve_left h0)
 have hne:((code.length:Int)==0)=false:=by
  have:code.length≠0:=fun e=>h0 (List.length_eq_zero_iff.1 e)
  simp; omega
 rw [hb] at f2
 unfold zkW at f2
 unfold woAV at f0 f2 |-
 refine zaa Tryz.func225 rfl Tryz.call225 (by rw [Tryz.ntmps225]; simp) ?_
 rw [Tryz.ntmps225,Tryz.results225]
 have F:=hne
 repeat (first | refine st ?_ | refine cC f2 ?_ | refine cC f1 ?_)
 exact aR
end

end Go.Proofs.YtnbjaghjdeicmaaGreatDoor