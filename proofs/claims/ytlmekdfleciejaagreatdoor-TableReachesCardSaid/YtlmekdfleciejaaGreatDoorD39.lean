/- Ways up and growing, as the program does them. -/
import Derived.Test.YtlmekdfleciejaaGreatDoorD37
import Derived.Test.YtlmekdfleciejaaGreatDoorD7
import Derived.Test.YtlmekdfleciejaaGreatDoorD38
set_option maxRecDepth 100000
set_option maxHeartbeats 16000000
set_option linter.unusedSimpArgs false
namespace Go.Proofs.YtlmekdfleciejaaGreatDoor
open Go.RowKit
section
def undR (c:ChD) (act:List Int) (i:Int):List Int:=(zL (sortL c act)).filter (aboveB c i)
def zgE (c:ChD) (l:List Int) (i:Int) (j:Nat):List Int:=(l.take j).filter (aboveB c i)
theorem zlH {c:ChD} {l:List Int} {i:Int} {j:Nat} {x:Int} (h:l[j]? =some x):zgE c l i (j+1)=if aboveB c i x then zgE c l i j++[x] else zgE c l i j:=by
 unfold zgE
 rw [List.take_add_one,h,List.filter_append]
 cases hb:aboveB c i x<;>simp [hb]
theorem zmV (c:ChD) (l:List Int) (i:Int) (j:Nat):(zgE c l i j).length<=l.length:=by
 unfold zgE
 exact Nat.le_trans (List.length_filter_le ..) (by rw [List.length_take]; omega)
theorem zin {c:ChD} (hc:Right c) (act:List Int):(sortL c act).length<=32:=by
 unfold sortL
 split
 ·exact Nat.le_trans (List.length_filter_le ..) (zhr hc (by omega))
 ·simp
theorem zpl (env:Env) (c:ChD) (hc:Right c) (act:List Int) (hl:act.length<=1000000) (d:Int):Con Tryz.prog env 120 [zai c, .seq 1 (act.map intAV),I d] (.own 3 1 ((undR c act d).reverse.map intAV)):=by
 have f1:=zbH env c
 have f2:=zfS env c hc act hl
 have hsl:=zin hc act
 rw [<-ze8] at f2
 unfold undR
 have hsl:(zL (sortL c act)).length<=32:=by rw [zdQ]; exact hsl
 generalize zL (sortL c act)=L at*
 unfold zai zal at f1
 unfold zal at f2
 unfold zai
 refine zaa Tryz.func120 rfl Tryz.call120 (by rw [Tryz.ntmps120]; simp) ?_
 rw [Tryz.ntmps120,Tryz.results120]
 repeat (first | refine st0 ?_ | refine cC0 f1 ?_ | refine cC0 f2 ?_)
 refine zbo 7 7 3 1 ?_
 refine zab (D:=Nat) (fun j vs=>[(0, .ref 9 [tabCells c] 0 0),(2,I d),(7, .row 7 (vs 7)),(13, .row 13 (vs 13)),(14,I L.length),(15,I j)]) (fun j _=>[(7,⟨1,(zgE c L d j).map intAV,3,true⟩),(13,⟨1,L.map intAV,3,true⟩)]) (fun j _ esc=>j<=L.length/\esc 7=false) (fun j=>L.length-j) 0 ?_ ?_ ?_ ?_
 ·exact⟨Nat.zero_le _,rfl⟩
 ·(simp only [go_sem])
  try rfl
 ·(simp only [go_sem])
  try rfl
 rintro j ws esc ⟨hj,e0⟩
 by_cases hlt:j<L.length
 ·obtain⟨x,hx⟩: ∃x,L[j]? =some x:=⟨L[j],List.getElem?_eq_getElem hlt⟩
  have q1:=nlt hlt
  have q2:=zac hlt (by omega)
  have f3:=zdB env c hc d x
  unfold zal at f3
  have hil:=zmV c L d j
  have hf:Fits ((zgE c L d j).length+1) 8:=zah (by omega) (by omega)
  have hn:=zlH (c:=c) (i:=d) hx
  cases hb:aboveB c d x with
  | true=>
    rw [hb] at f3
    rw [hb,if_pos rfl] at hn
    have F:=ai q1<|ai q2<|ai hx<|ai hf<|e0
    repeat (first | refine st ?_ | refine cC f1 ?_ | refine cC f3 ?_)
    refine⟨j+1,⟨hlt,by simp only [go_sem,e0]⟩, ?_, ?_,by omega⟩
    ·(simp only [go_sem,F])
    ·have F:=hn
     (simp only [go_sem,List.map_append,F])
  | false=>
    rw [hb] at f3
    rw [hb,if_neg Bool.false_ne_true] at hn
    have F:=ai q1<|ai q2<|ai hx<|ai hf<|e0
    repeat (first | refine st ?_ | refine cC f1 ?_ | refine cC f3 ?_)
    refine⟨j+1,⟨hlt,by simp only [go_sem,e0]⟩, ?_, ?_,by omega⟩
    ·(simp only [go_sem,F])
    ·have F:=hn
     (simp only [go_sem,List.map_append,F])
 ·obtain rfl:j=L.length:=by omega
  have q1: ¬(L.length:Int)< (L.length:Int):=by omega
  have hall:zgE c L d L.length=L.filter (aboveB c d):=by unfold zgE; rw [List.take_length]
  rw [hall]
  have hfl:(L.filter (aboveB c d)).length<=32:=Nat.le_trans (List.length_filter_le ..) hsl
  generalize L.filter (aboveB c d)=U at*
  have f4:=zlV U (by omega)
  have F:=ai q1<|e0
  repeat refine st ?_
  refine zn9 7 rfl (row:=⟨1,U.map intAV,3,true⟩) f4 (Nat.succ_ne_zero 0) rfl (zbc _).symm (by simp only [go_sem,e0]; exact iR) (by simp only [go_sem,e0]; exact iR) (by simp only [go_sem,e0]; exact iR) (by simp only [go_sem,e0]; exact iR) ?_
  rw [zbc]
  repeat refine st ?_
  exact aR
theorem zg9 (env:Env) (a1 a8:Addr) (he:ChEnv env a1 a8) (s:List UInt8):Con Tryz.prog env 116 [Sg s] (errV (-1) (sentV a1)):=by
 have g1:=zkq he.e1
 have f0:=zcy env s a1
 refine zaa Tryz.func116 rfl Tryz.call116 (by rw [Tryz.ntmps116]; simp) ?_
 rw [Tryz.ntmps116,Tryz.results116]
 have F:=g1
 repeat (first | refine st ?_ | refine cC f0 ?_)
 exact aR
def leaveR (c:ChD) (act:List Int) (t:TrD):List Int:=if t.target<0 then [] else(undR c act (domE c t.src t.target)).reverse
theorem zoX (env:Env) (a1 a8:Addr) (he:ChEnv env a1 a8) (c:ChD) (h:Full c) (hs:Small c) (act:List Int) (hl:act.length<=1000000) (k:Nat) (t:TrD) (ht:c.trans[k]? =some t) (hb:lgB c act=true):Con Tryz.prog env 65 [zai c, .seq 1 (act.map intAV),I k] (.tuple [.seq 1 ((leaveR c act t).map intAV),nilE]):=by
 have f0:=zjE env a1 a8 he c h hs act hl
 have f1:=zhx env c hs k t ht
 have f2:=zhg env c h.toRight hs t (h.src ht).1
 have f3:=zpl env c h.toRight act hl (domE c t.src t.target)
 unfold chkE at f0
 rw [hb] at f0
 simp only [if_true] at f0
 unfold leaveR
 unfold trAV at f1 f2
 unfold zai at f0 f1 f2 f3 |-
 by_cases h0:t.target<0
 ·rw [if_pos h0]
  refine zaj Tryz.func65 rfl Tryz.call65 (by rw [Tryz.ntmps65]; simp) ?_
  rw [Tryz.ntmps65,Tryz.results65]
  have F:=h0
  repeat (first | refine st ?_ | refine cC f0 ?_ | refine cC f1 ?_ | refine cC f2 ?_ | refine cC f3 ?_)
  (refine zak ?_; refine⟨_,(by show (zaz _ _ _).run _=some _; simp only [go_sem,F]; rfl), ?_⟩)
  exact .of (.tuple (.cons (.nil 1) (.cons (.refl _) .nil))) (fun _ _ _ h=>by cases h) (fun _ _ _ h=>by cases h)
 ·rw [if_neg h0]
  refine zaa Tryz.func65 rfl Tryz.call65 (by rw [Tryz.ntmps65]; simp) ?_
  rw [Tryz.ntmps65,Tryz.results65]
  have F:=h0
  repeat (first | refine st ?_ | refine cC f0 ?_ | refine cC f1 ?_ | refine cC f2 ?_ | refine cC f3 ?_)
  exact aR
theorem zri {l:List Int} (h: ∀x∈l,0<=x):l=zL (l.map Int.toNat):=by
 unfold zL
 rw [List.map_map]
 conv=>lhs; rw [<-List.map_id l]
 refine List.map_congr_left fun x hx=> ?_
 have:=h x hx
 simp only [id_eq,Function.comp]
 omega
theorem zlZ (env:Env) (c:ChD) (hc:Right c) (act:List Int) (hl:act.length<=1000000) (hz: ∀x∈act,0<=x):Con Tryz.prog env 77 [.agg (chAV c), .seq 1 (act.map intAV)] (.own 3 1 ((sortL c act).map zae)):=by
 have f:=znf env c hc (act.map Int.toNat) (by rw [List.length_map]; exact hl)
 rw [<-ze8, <-zri hz] at f
 exact f
end
section
def idxZ:List Int->Int->Nat->Option Nat
 | [],_,_=>none
 | x::l,k,n=>if k=x then some n else idxZ l k (n+1)
theorem zes {k:Int} : ∀ {l:List Int} {n:Nat},k∉l->idxZ l k n=none
 | [],_,_=>rfl
 | x::l,n,h=>by
   unfold idxZ
   rw [if_neg (fun e=>h (by rw [e]; exact List.mem_cons_self ..)),zes (fun hh=>h (List.mem_cons_of_mem _ hh))]
theorem zgi {k:Int} : ∀ {l:List Int} {n:Nat},k∈l-> ∃i,idxZ l k n=some (n+i)/\l[i]? =some k
 | [],n,h=>by cases h
 | x::l,n,h=>by
   unfold idxZ
   by_cases e:k=x
   ·exact⟨0,by rw [if_pos e]; rfl,by rw [e]; rfl⟩
   ·obtain⟨i,h1,h2⟩:=zgi (n:=n+1) ((List.mem_cons.1 h).resolve_left e)
    exact⟨i+1,by rw [if_neg e,h1]; congr 1; omega,by simpa using h2⟩
def zcU (l:List Int):List (List AV):=l.map fun k=>[I k,I 1]
theorem zeS (k:Int): ∀(l:List Int) (n:Nat),mfind Tryz.prog 3 (I k) (zcU l) n=some (idxZ l k n)
 | [],n=>rfl
 | x::l,n=>by
   have ih:=zeS k l (n+1)
   unfold zcU at ih |-
   unfold idxZ
   by_cases e:k=x
   ·have e1:(k==x)=true:=by simp [e]
    simp only [go_sem,za9,zbd,List.map_cons,e1,if_pos e]
   ·have e1:(k==x)=false:=by simpa using e
    simp only [go_sem,za9,zbd,List.map_cons,e1,if_neg e,ih]
theorem zig (env:Env) (o:List Int) (i:Int) (ho:o.length<=4000) (te:TypeId):ConI Tryz.prog env 199 [1000,1001] (fun k=>k==1001) (fun vs=>[I i, .loc 1000 (vs 1000) 0 0]) (fun vs=>[(1000,⟨1,[[.row 1001 (vs 1001)]],te,false⟩),(1001,⟨1,o.map intAV,3,true⟩)]) (fun vs=>[(1000,⟨1,[[.row 1001 (vs 1001)]],te,false⟩),(1001,⟨1,(addU o i).map intAV,3,true⟩)]) (fun _=> .lit (.tuple #[])):=by
 have f0:=(zb6 env o i (by omega)).lend rfl
 unfold addU
 cases hc:o.contains i with
 | true=>
   rw [hc] at f0
   simp only [if_true]
   refine⟨Tryz.call199,_,_,Tryz.func199,rfl,(by intro _; rw [Tryz.ntmps199]; simp), ?_⟩
   intro vs esc hesc
   rw [Tryz.ntmps199,Tryz.results199]
   have e0:=hesc 1000 (by simp)
   have e1:=hesc 1001 (by simp)
   have F:=ai e0<|e1
   repeat refine st ?_
   refine oL rfl (f0) (by simp only [go_sem,F]; exact iR) (by simp only [go_sem,F]; exact⟨rfl,rfl⟩) ?_
   repeat refine st ?_
   (refine zhG ?_ ?_<;>simp only [go_sem,F,implies_true,and_self,imp_self,false_implies,AV.tuple.injEq,exists_eq_left',ne_eq])
 | false=>
   rw [hc] at f0
   have hf:Fits (o.length+1) 8:=zah (by omega) (by omega)
   simp only [Bool.false_eq_true,if_false,List.map_append]
   refine⟨Tryz.call199,_,_,Tryz.func199,rfl,(by intro _; rw [Tryz.ntmps199]; simp), ?_⟩
   intro vs esc hesc
   rw [Tryz.ntmps199,Tryz.results199]
   have e0:=hesc 1000 (by simp)
   have e1:=hesc 1001 (by simp)
   have F:=ai e0<|ai e1<|hf
   repeat refine st ?_
   refine oL rfl (f0) (by simp only [go_sem,F]; exact iR) (by simp only [go_sem,F]; exact⟨rfl,rfl⟩) ?_
   repeat refine st ?_
   (refine zhG ?_ ?_<;>simp only [go_sem,F,implies_true,and_self,imp_self,false_implies,AV.tuple.injEq,exists_eq_left',ne_eq])
theorem zc2 {c:ChD} {a:List Int} (hn:a.Nodup) (hz: ∀x∈a,inZ c x=true):a.length<=c.states.length:=by
 have:=zeh (c:=c) (l:=[]) hn fun k hk=>⟨by simp,hz k hk⟩
 have:=znA c []
 omega
theorem zmT {c:ChD} {d:Int} {o U:List Int} {m:Nat} {k:Int} (h:U[m]? =some k):upTo c d o U (m+1)=if 0<=k/\aboveB c d k=true then addU (upTo c d o U m) k else upTo c d o U m:=zdK _ _ h
theorem zlG {c:ChD} {d:Int} {l:List Int} {j:Nat} {k:Int} (h:l[j]? =some k):upsTo c d l (j+1)=upTo c d (addU (upsTo c d l j) k) (upL c k) (upL c k).length:=zdK _ _ h
theorem zmR {c:ChD} (hc:Right c) {d:Int} {l:List Int} (hz: ∀x∈l,inZ c x=true) {j:Nat} (hj:j<=l.length):(upsTo c d l j).Nodup/\(∀x∈upsTo c d l j,inZ c x=true)/\(upsTo c d l j).length<=32:=by
 obtain⟨h1,h2⟩:=zht (c:=c) (d:=d) (l:=l) j hj
 have h3: ∀x∈upsTo c d l j,inZ c x=true:=fun x hx=>by
  rcases (h2 x).1 hx with h | ⟨i,h,q1,q2,_⟩
  ·exact hz x (List.mem_of_mem_take h)
  ·exact(zcu hc q1 q2).1
 exact⟨h1,h3,Nat.le_trans (zc2 h1 h3) hc.few⟩
theorem zo2 {c:ChD} (hc:Right c) {d i:Int} {o:List Int} (hn:o.Nodup) (hz: ∀x∈o,inZ c x=true) {m:Nat} (hm:m<=(upL c i).length):(upTo c d o (upL c i) m).Nodup/\(∀x∈upTo c d o (upL c i) m,inZ c x=true)/\(upTo c d o (upL c i) m).length<=32:=by
 obtain⟨h1,h2⟩:=zjP (c:=c) (d:=d) (U:=upL c i) m hm hn
 have h3: ∀x∈upTo c d o (upL c i) m,inZ c x=true:=fun x hx=>by
  rcases (h2 x).1 hx with h | ⟨h,q2,_⟩
  ·exact hz x h
  ·exact(zcu hc (List.mem_of_mem_take h) q2).1
 exact⟨h1,h3,Nat.le_trans (zc2 h1 h3) hc.few⟩
theorem zpY (env:Env) (c:ChD) (hc:Right c) (l:List Int) (hl:l.length<=1000000) (hz: ∀x∈l,inZ c x=true) (d:Int):Con Tryz.prog env 163 [zai c, .seq 1 (l.map intAV),I d] (.own 3 1 ((upsL c l d).map intAV)):=by
 have hlen:=hc.few
 have f1:=zbH env c
 unfold zai zal at f1
 unfold zai
 refine zaa Tryz.func163 rfl Tryz.call163 (by rw [Tryz.ntmps163]; simp) ?_
 rw [Tryz.ntmps163,Tryz.results163]
 repeat refine st0 ?_
 refine zbh 7 9000 0 0 ⟨1,[[nilS]],35,false⟩ [nilS] 3 1 (by decide) (by decide) (Nat.succ_ne_zero 0) rfl rfl rfl (by simp only [go_sem]; exact iR) (by simp only [go_sem]; exact iR) ?_
 refine zab (D:=Nat) (fun j vs=>[(0, .ref 9 [tabCells c] 0 0),(2,I d),(7, .loc 7 (vs 7) 0 0),(8, .clo 199 [.loc 7 (vs 7) 0 0]),(14, .seq 1 (l.map intAV)),(15,I l.length),(16,I j)]) (fun j vs=>[(7,⟨1,[[.row 9000 (vs 9000)]],35,false⟩),(9000,⟨1,(upsTo c d l j).map intAV,3,true⟩)]) (fun j _ esc=>j<=l.length/\esc 7=false/\esc 9000=false) (fun j=>l.length-j) 0 ?_ ?_ ?_ ?_
 ·exact⟨Nat.zero_le _,rfl,rfl⟩
 ·(simp only [go_sem])
  try rfl
 ·(simp only [go_sem])
  try rfl
 rintro j ws esc ⟨hj,e0,e1⟩
 by_cases hlt:j<l.length
 ·obtain⟨x,hx⟩: ∃x,l[j]? =some x:=⟨l[j],List.getElem?_eq_getElem hlt⟩
  have q1:=nlt hlt
  have q2:=zac hlt (by omega)
  obtain⟨n1,n2,n3⟩:=zmR hc (d:=d) hz hj
  have hxz:=hz x (List.mem_of_getElem? hx)
  have hn:=zlG (c:=c) (d:=d) hx
  have fa:=zig env (upsTo c d l j) x (by omega) 35
  have f2:=zmW env c hc x
  unfold zal at f2
  have m1:=ze7 n1 x
  have m2: ∀y∈addU (upsTo c d l j) x,inZ c y=true:=fun y hy=>(zic.1 hy).elim (n2 y) fun e=>by rw [e]; exact hxz
  have hfew:=fun m hm=>zo2 hc (d:=d) (i:=x) m1 m2 (m:=m) hm
  have hUl:(upL c x).length<=40:=zfQ 40 x
  have hUr: ∀y∈upL c x,y<0\/inZ c y=true:=fun y hy=>by
   rcases Int.lt_or_le y 0 with h | h
   ·exact .inl h
   ·exact .inr (zcu hc hy h).1
  generalize addU (upsTo c d l j) x=o at*
  generalize upL c x=U at*
  have z0:upTo c d o U 0=o:=rfl
  have F:=ai hx<|ai q1<|ai q2<|ai e0<|e1
  repeat refine st ?_
  refine zeD [(1000,7),(1001,9000)] (zb8 rfl (by simp only [go_sem,F]; exact iR)) (fa) (by decide) (by decide) (by simp only [go_sem,F]<;>rfl) (by simp only [go_sem,F,and_self]<;>trivial) (by simp only [go_sem,F,and_self]<;>trivial) (by intro o; simp only [go_sem,F,behind,and_self]<;>trivial) (by intro o; simp only [go_sem,F]<;>rfl) (by simp only [go_sem,F,behind]; exact iR) (by simp only [go_sem,F,behind]; exact iR) ?_
  repeat (first | refine st ?_ | refine cC f1 ?_ | refine cC f2 ?_)
  refine zab (D:=Nat) (fun m vs=>[(0, .ref 9 [tabCells c] 0 0),(2,I d),(7, .loc 7 (vs 7) 0 0),(8, .clo 199 [.loc 7 (vs 7) 0 0]),(14, .seq 1 (l.map intAV)),(15,I l.length),(16,I j),(26, .row 26 (vs 26)),(27,I U.length),(28,I m)]) (fun m vs=>[(7,⟨1,[[.row 9000 (vs 9000)]],35,false⟩),(9000,⟨1,(upTo c d o U m).map intAV,3,true⟩),(26,⟨1,U.map intAV,3,true⟩)]) (fun m _ esc=>m<=U.length/\esc 7=false/\esc 9000=false) (fun m=>U.length-m) 0 ?_ ?_ ?_ ?_
  ·exact⟨Nat.zero_le _,by simp only [go_sem,e0],by simp only [go_sem,e1]⟩
  ·(simp only [go_sem,F])
   try rfl
  ·have F:=z0
   (simp only [go_sem,F])
   try rfl
  try clear e0 e1
  rintro m vs es ⟨hm,e0,e1⟩
  obtain⟨k1,k2,k3⟩:=hfew m hm
  by_cases hml:m<U.length
  ·obtain⟨y,hy⟩: ∃y,U[m]? =some y:=⟨U[m],List.getElem?_eq_getElem hml⟩
   have p1:=nlt hml
   have p2:=zac hml (by omega)
   have hnm:=zmT (c:=c) (d:=d) (o:=o) hy
   have fb:=zig env (upTo c d o U m) y (by omega) 35
   have f3:=zdB env c hc d y
   unfold zal at f3
   rcases hUr y (List.mem_of_getElem? hy) with h0 | hyz
   ·have h1: ¬0<=y:=by omega
    rw [if_neg (fun q=>h1 q.1)] at hnm
    have F:=ai hy<|ai p1<|ai p2<|ai h1<|ai e0<|e1
    repeat (first | refine st ?_ | refine cC f1 ?_ | refine cC f3 ?_)
    refine⟨m+1,⟨hml,by simp only [go_sem,e0],by simp only [go_sem,e1]⟩, ?_, ?_,by omega⟩
    ·(simp only [go_sem,F])
    ·have F:=hnm
     (simp only [go_sem,F])
   ·have h1:=(zag.1 hyz).1
    cases hab:aboveB c d y with
    | false=>
      rw [hab] at f3 hnm
      rw [if_neg (by simp)] at hnm
      have F:=ai hy<|ai p1<|ai p2<|ai h1<|ai e0<|e1
      repeat (first | refine st ?_ | refine cC f1 ?_ | refine cC f3 ?_)
      refine⟨m+1,⟨hml,by simp only [go_sem,e0],by simp only [go_sem,e1]⟩, ?_, ?_,by omega⟩
      ·(simp only [go_sem,F])
      ·have F:=hnm
       (simp only [go_sem,F])
    | true=>
      rw [hab] at f3 hnm
      rw [if_pos ⟨h1,rfl⟩] at hnm
      generalize upTo c d o U m=a at*
      have F:=ai hy<|ai p1<|ai p2<|ai h1<|ai e0<|e1
      repeat (first | refine st ?_ | refine cC f1 ?_ | refine cC f3 ?_)
      refine zeD [(1000,7),(1001,9000)] (zb8 rfl (by simp only [go_sem,F]; exact iR)) (fb) (by decide) (by decide) (by simp only [go_sem,F]<;>rfl) (by simp only [go_sem,F,and_self]<;>trivial) (by simp only [go_sem,F,and_self]<;>trivial) (by intro o; simp only [go_sem,F,behind,and_self]<;>trivial) (by intro o; simp only [go_sem,F]<;>rfl) (by simp only [go_sem,F,behind]; exact iR) (by simp only [go_sem,F,behind]; exact iR) ?_
      repeat refine st ?_
      refine⟨m+1,⟨hml,by simp only [go_sem,e0],by simp only [go_sem,e1]⟩, ?_, ?_,by omega⟩
      ·(simp only [go_sem,F])
      ·have F:=hnm
       (simp only [go_sem,F])
  ·obtain rfl:m=U.length:=by omega
   have p1: ¬(U.length:Int)< (U.length:Int):=by omega
   have F:=ai p1<|ai q2<|ai e0<|e1
   repeat refine st ?_
   refine⟨j+1,⟨hlt,by simp only [go_sem,e0],by simp only [go_sem,e1]⟩, ?_, ?_,by omega⟩
   ·(simp only [go_sem,F])
   ·have F:=hn
    (simp only [go_sem,F])
 ·obtain rfl:j=l.length:=by omega
  have q1: ¬(l.length:Int)< (l.length:Int):=by omega
  show awp _ _ _ _ _ _
  have hall:upsTo c d l l.length=upsL c l d:=rfl
  rw [hall]
  have F:=ai q1<|ai e0<|e1
  repeat refine st ?_
  exact aR
end

end Go.Proofs.YtlmekdfleciejaaGreatDoor