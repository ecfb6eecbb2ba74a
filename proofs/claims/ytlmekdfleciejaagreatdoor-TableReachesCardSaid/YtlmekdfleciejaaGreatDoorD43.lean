/- Moving where nothing is remembered. -/
import Derived.Test.YtlmekdfleciejaaGreatDoorD42
import Derived.Test.YtlmekdfleciejaaGreatDoorD7
import Derived.Test.YtlmekdfleciejaaGreatDoorD38
set_option maxRecDepth 100000
set_option maxHeartbeats 16000000
set_option linter.unusedSimpArgs false
namespace Go.Proofs.YtlmekdfleciejaaGreatDoor
open Go.RowKit
section
theorem zfU {α:Type} {l:List α} {n:Nat} {x:α} (h:l[n]? =some x):l.take (n+1)=l.take n++[x]:=by rw [List.take_add_one,h]; rfl
theorem zox {α:Type} {l:List α} {n:Nat} {x:α} (h:l[n]? =some x):l.drop n=x::l.drop (n+1):=by
 obtain⟨hn,he⟩:=List.getElem?_eq_some_iff.1 h
 rw [List.drop_eq_getElem_cons hn,he]
def idxQ (p:Int->Bool):List Int->Option Nat
 | []=>none
 | d::l=>if p d=true then some 0 else(idxQ p l).map (· +1)
def idxJ:Option Nat->Int
 | some i=>i
 | none=> -1
theorem ziY {p:Int->Bool} : ∀ {l:List Int} {i:Nat},idxQ p l=some i->i<l.length/\l.take i=(l.take i).filter (fun d=> !p d)/\ ∃d,l[i]? =some d/\p d=true
 | [],i,h=>by simp [idxQ] at h
 | d::l,i,h=>by
   unfold idxQ at h
   split at h
   ·rename_i hp
    cases h
    exact⟨by simp,by simp,d,rfl,hp⟩
   ·rename_i hp
    cases hi:idxQ p l with
    | none=>rw [hi] at h; cases h
    | some j=>
      rw [hi] at h
      cases h
      obtain⟨h1,h2,x,h3,h4⟩:=ziY hi
      refine⟨by simp; omega, ?_,x,by simpa using h3,h4⟩
      have hp:p d=false:=by simpa using hp
      simp only [List.take_succ_cons,List.filter_cons,hp,Bool.not_false,if_true]
      rw [<-h2]
theorem ziZ {p:Int->Bool} : ∀ {l:List Int},idxQ p l=none->l.filter (fun d=> !p d)=l/\ ∀d∈l,p d=false
 | [],h=>by simp
 | d::l,h=>by
   unfold idxQ at h
   split at h
   ·cases h
   ·rename_i hp
    have hp:p d=false:=by simpa using hp
    cases hi:idxQ p l with
    | some j=>rw [hi] at h; cases h
    | none=>
      obtain⟨h1,h2⟩:=ziZ hi
      refine⟨by simp only [List.filter_cons,hp,Bool.not_false,if_true,h1],fun x hx=> ?_⟩
      rcases List.mem_cons.1 hx with rfl | hx
      ·exact hp
      ·exact h2 x hx
theorem zn0 {p:Int->Bool} {l:List Int} {n:Nat} {d:Int} (hd:l[n]? =some d):idxQ p (l.drop n)=if p d=true then some 0 else(idxQ p (l.drop (n+1))).map (· +1):=by
 rw [zox hd]
 rfl
theorem zkn (env:Env) (l:List Int) (p:Int->Bool) (g:FuncId) (caps:List (List AV)) (hp: ∀d,Con Tryz.prog env g [I d, .ref 1 caps 0 0] (B (p d))) (hl:l.length<=4096):Con Tryz.prog env 161 [.seq 1 (l.map intAV), .clo g [.ref 1 caps 0 0]] (I (idxJ (idxQ p l))):=by
 refine zaa Tryz.func161 rfl Tryz.call161 (by rw [Tryz.ntmps161]; simp) ?_
 rw [Tryz.ntmps161,Tryz.results161]
 repeat refine st0 ?_
 refine zab (D:=Nat) (fun n vs=>[(0, .seq 1 (l.map intAV)),(1, .clo g [.ref 1 caps 0 0]),(7,I l.length),(8,I n)]) (fun n vs=>[]) (fun n _ esc=>n<=l.length/\idxQ p l=(idxQ p (l.drop n)).map (· +n)) (fun n=>l.length-n) 0 ?_ ?_ ?_ ?_
 ·exact⟨Nat.zero_le _,by simp⟩
 ·(simp only [go_sem])
 ·(simp only [go_sem])
 rintro n vs esc ⟨hn,hi⟩
 by_cases hlt:n<l.length
 ·obtain⟨d,hd⟩: ∃x,l[n]? =some x:=⟨l[n],List.getElem?_eq_getElem hlt⟩
  have g1:=nlt hlt
  have g2:=zac hlt (by omega)
  have f1:=hp d
  rw [zn0 hd] at hi
  cases h1:p d
  ·rw [h1] at hi f1
   simp only [Bool.false_eq_true,if_false] at hi
   have F:=ai g1<|g2
   repeat (first | refine oO rfl (by simp only [go_sem,hd,F]; exact⟨rfl,rfl⟩) ?_ | refine gR ?_ | refine gO ?_ | refine oZ (zb5 ?_) | refine oZ ?_ | refine oS ?_ | refine gT ?_ | refine gD Tryz.mixed ?_ | refine oB ?_ | refine oK ?_ | (refine oX ?_; simp only [zaQ,zaE, ↓reduceIte,Nat.reduceEqDiff,reduceCtorEq]) | refine oY (by simp only [go_sem,hd,F]; exact iR) ?_ | refine oN (by simp only [go_sem,hd,F]; exact iR) ?_)
   refine oC (zb8 rfl (by simp only [go_sem,hd,F]; exact iR)) (f1) (by simp only [go_sem,hd,F]; exact iR) (by simp only [go_sem,hd,F]; exact⟨rfl,rfl⟩) ?_
   repeat (first | refine oO rfl (by simp only [go_sem,hd,F]; exact⟨rfl,rfl⟩) ?_ | refine gR ?_ | refine gO ?_ | refine oZ (zb5 ?_) | refine oZ ?_ | refine oS ?_ | refine gT ?_ | refine gD Tryz.mixed ?_ | refine oB ?_ | refine oK ?_ | (refine oX ?_; simp only [zaQ,zaE, ↓reduceIte,Nat.reduceEqDiff,reduceCtorEq]) | refine oY (by simp only [go_sem,hd,F]; exact iR) ?_ | refine oN (by simp only [go_sem,hd,F]; exact iR) ?_)
   refine⟨n+1,⟨hlt, ?_⟩, ?_, ?_, ?_⟩
   ·rw [hi]
    cases idxQ p (l.drop (n+1))
    ·rfl
    ·simp; omega
   ·(simp only [go_sem,hd,F])
   ·(simp only [go_sem,hd,F])
   ·omega
  ·rw [h1] at hi f1
   simp only [if_true,Option.map_some,Nat.zero_add] at hi
   rw [hi]
   have F:=ai g1<|g2
   repeat (first | refine oO rfl (by simp only [go_sem,hd,idxJ,F]; exact⟨rfl,rfl⟩) ?_ | refine gR ?_ | refine gO ?_ | refine oZ (zb5 ?_) | refine oZ ?_ | refine oS ?_ | refine gT ?_ | refine gD Tryz.mixed ?_ | refine oB ?_ | refine oK ?_ | (refine oX ?_; simp only [zaQ,zaE, ↓reduceIte,Nat.reduceEqDiff,reduceCtorEq]) | refine oY (by simp only [go_sem,hd,idxJ,F]; exact iR) ?_ | refine oN (by simp only [go_sem,hd,idxJ,F]; exact iR) ?_)
   refine oC (zb8 rfl (by simp only [go_sem,hd,idxJ,F]; exact iR)) (f1) (by simp only [go_sem,hd,idxJ,F]; exact iR) (by simp only [go_sem,hd,idxJ,F]; exact⟨rfl,rfl⟩) ?_
   repeat (first | refine oO rfl (by simp only [go_sem,hd,idxJ,F]; exact⟨rfl,rfl⟩) ?_ | refine gR ?_ | refine gO ?_ | refine oZ (zb5 ?_) | refine oZ ?_ | refine oS ?_ | refine gT ?_ | refine gD Tryz.mixed ?_ | refine oB ?_ | refine oK ?_ | (refine oX ?_; simp only [zaQ,zaE, ↓reduceIte,Nat.reduceEqDiff,reduceCtorEq]) | refine oY (by simp only [go_sem,hd,idxJ,F]; exact iR) ?_ | refine oN (by simp only [go_sem,hd,idxJ,F]; exact iR) ?_)
   (refine zak ?_; show (zaz _ _ _).run _=some _; simp only [go_sem,hd,idxJ,F])
 ·have g1: ¬(n:Int)< (l.length:Int):=by omega
  rw [List.drop_of_length_le (by omega)] at hi
  rw [hi]
  have F:=g1
  repeat (first | refine oO rfl (by simp only [go_sem,idxJ,idxQ,F]; exact⟨rfl,rfl⟩) ?_ | refine gR ?_ | refine gO ?_ | refine oZ (zb5 ?_) | refine oZ ?_ | refine oS ?_ | refine gT ?_ | refine gD Tryz.mixed ?_ | refine oB ?_ | refine oK ?_ | (refine oX ?_; simp only [zaQ,zaE, ↓reduceIte,Nat.reduceEqDiff,reduceCtorEq]) | refine oY (by simp only [go_sem,idxJ,idxQ,F]; exact iR) ?_ | refine oN (by simp only [go_sem,idxJ,idxQ,F]; exact iR) ?_)
  (refine zak ?_; show (zaz _ _ _).run _=some _; simp only [go_sem,idxJ,idxQ,F])
theorem zjx (env:Env) (l:List Int) (p:Int->Bool) (g:FuncId) (G:List Int) (te:TypeId) (hp: ∀d,Con Tryz.prog env g [I d, .ref 1 [[.seq 1 (G.map intAV)]] 0 0] (B (p d))) (hl:l.length<=4096):
 ConI Tryz.prog env 103 [1000,1001] (fun k=>k==1000) (fun vs=>[.row 1000 (vs 1000), .clo g [.loc 1001 (vs 1001) 0 0]]) (fun _=>[(1000,⟨1,l.map intAV,3,true⟩),(1001,⟨1,[[.seq 1 (G.map intAV)]],te,false⟩)]) (fun _=>[(1000,⟨1,(l.filter fun d=> !p d).map intAV,3,true⟩),(1001,⟨1,[[.seq 1 (G.map intAV)]],te,false⟩)]) (fun vs=> .row 1000 (vs 1000)):=by
 have f0:=(zkn env l p g [[.seq 1 (G.map intAV)]] hp hl).lend rfl
 cases hi:idxQ p l with
 | none=>
   rw [hi] at f0
   obtain⟨h1,_⟩:=ziZ hi
   rw [h1]
   refine⟨Tryz.call103,_,_,Tryz.func103,rfl,(by intro _; rw [Tryz.ntmps103]; simp), ?_⟩
   intro vs esc hesc
   rw [Tryz.ntmps103,Tryz.results103]
   have e0:=hesc 1000 (by simp)
   have e1:=hesc 1001 (by simp)
   have F:=ai e0<|e1
   repeat (first | refine oO rfl (by simp only [go_sem,idxJ,F]; exact⟨rfl,rfl⟩) ?_ | refine gR ?_ | refine gO ?_ | refine oZ (zb5 ?_) | refine oZ ?_ | refine oS ?_ | refine gT ?_ | refine gD Tryz.mixed ?_ | refine oB ?_ | refine oK ?_ | (refine oX ?_; simp only [zaQ,zaE, ↓reduceIte,Nat.reduceEqDiff,reduceCtorEq]) | refine oY (by simp only [go_sem,idxJ,F]; exact iR) ?_ | refine oN (by simp only [go_sem,idxJ,F]; exact iR) ?_)
   refine oL rfl (f0) (by simp only [go_sem,idxJ,F]; exact iR) (by simp only [go_sem,idxJ,F]; exact⟨rfl,rfl⟩) ?_
   repeat (first | refine oO rfl (by simp only [go_sem,idxJ,F]; exact⟨rfl,rfl⟩) ?_ | refine gR ?_ | refine gO ?_ | refine oZ (zb5 ?_) | refine oZ ?_ | refine oS ?_ | refine gT ?_ | refine gD Tryz.mixed ?_ | refine oB ?_ | refine oK ?_ | (refine oX ?_; simp only [zaQ,zaE, ↓reduceIte,Nat.reduceEqDiff,reduceCtorEq]) | refine oY (by simp only [go_sem,idxJ,F]; exact iR) ?_ | refine oN (by simp only [go_sem,idxJ,F]; exact iR) ?_)
   (refine zak ?_; (try simp only [zaQ,zaE, ↓reduceIte,Nat.reduceEqDiff,reduceCtorEq]); refine znb ?_ ?_<;>simp only [go_sem,idxJ,F,implies_true,and_self,imp_self,false_implies,AV.tuple.injEq,exists_eq_left',ne_eq])
 | some i0=>
   rw [hi] at f0
   obtain⟨h1,h2,d0,h3,h4⟩:=ziY hi
   have g0:((i0:Int) == -1)=false:=by simp
   have g1:=zac h1 (by omega)
   refine⟨Tryz.call103,_,_,Tryz.func103,rfl,(by intro _; rw [Tryz.ntmps103]; simp), ?_⟩
   intro vs esc hesc
   rw [Tryz.ntmps103,Tryz.results103]
   have e0:=hesc 1000 (by simp)
   have e1:=hesc 1001 (by simp)
   have F:=ai e0<|ai e1<|ai g0<|g1
   repeat (first | refine oO rfl (by simp only [go_sem,idxJ,F]; exact⟨rfl,rfl⟩) ?_ | refine gR ?_ | refine gO ?_ | refine oZ (zb5 ?_) | refine oZ ?_ | refine oS ?_ | refine gT ?_ | refine gD Tryz.mixed ?_ | refine oB ?_ | refine oK ?_ | (refine oX ?_; simp only [zaQ,zaE, ↓reduceIte,Nat.reduceEqDiff,reduceCtorEq]) | refine oY (by simp only [go_sem,idxJ,F]; exact iR) ?_ | refine oN (by simp only [go_sem,idxJ,F]; exact iR) ?_)
   refine oL rfl (f0) (by simp only [go_sem,idxJ,F]; exact iR) (by simp only [go_sem,idxJ,F]; exact⟨rfl,rfl⟩) ?_
   repeat (first | refine oO rfl (by simp only [go_sem,idxJ,F]; exact⟨rfl,rfl⟩) ?_ | refine gR ?_ | refine gO ?_ | refine oZ (zb5 ?_) | refine oZ ?_ | refine oS ?_ | refine gT ?_ | refine gD Tryz.mixed ?_ | refine oB ?_ | refine oK ?_ | (refine oX ?_; simp only [zaQ,zaE, ↓reduceIte,Nat.reduceEqDiff,reduceCtorEq]) | refine oY (by simp only [go_sem,idxJ,F]; exact iR) ?_ | refine oN (by simp only [go_sem,idxJ,F]; exact iR) ?_)
   refine zab (D:=Nat×List Int) (fun x vs'=>[(0, .row 1000 (vs' 1000)),(1, .clo g [.loc 1001 (vs' 1001) 0 0]),(5,I (((l.take x.1).filter fun d=> !p d).length:Int)),(6,I (x.1:Int))]) (fun x vs'=>[(1000,⟨1,x.2.map intAV,3,true⟩),(1001,⟨1,[[.seq 1 (G.map intAV)]],te,false⟩)]) (fun x vs' esc'=>(x.1<=l.length/\x.2.length=l.length/\((l.take x.1).filter fun d=> !p d).length<x.1/\x.2.take ((l.take x.1).filter fun d=> !p d).length=(l.take x.1).filter (fun d=> !p d)/\x.2.drop x.1=l.drop x.1)/\vs' 1001=vs 1001/\esc' 1000=false/\esc' 1001=false) (fun x=>l.length-x.1) (i0+1,l) ?_ ?_ ?_ ?_
   ·have hq:(l.take (i0+1)).filter (fun d=> !p d)=l.take i0:=by
     rw [zfU h3,List.filter_append, <-h2]
     simp [h4]
    refine⟨⟨h1,rfl, ?_, ?_,rfl⟩,by simp only [go_sem],by simp only [go_sem,e0],by simp only [go_sem,e1]⟩
    ·rw [hq,List.length_take]; omega
    ·simp only
     rw [hq,List.length_take,Nat.min_eq_left (by omega)]
   ·have hq:((l.take (i0+1)).filter fun d=> !p d).length=i0:=by
     rw [zfU h3,List.filter_append, <-h2]
     simp [h4]
     omega
    simp only [hq]
    (simp only [go_sem,idxJ,F])
   ·(simp only [go_sem,idxJ,F])
   try clear e0 e1 g0 g1 h1 h2 h3 h4 hi
   rintro⟨j,L⟩ ws es ⟨⟨hj,hL,hc,ht,hd⟩,v1,e0,e1⟩
   simp only at hj hL hc ht hd
   generalize hcn:((l.take j).filter fun d=> !p d).length=c at*
   by_cases hlt:j<l.length
   ·obtain⟨d,hx⟩: ∃x,l[j]? =some x:=⟨l[j],List.getElem?_eq_getElem hlt⟩
    have hxL:L[j]? =some d:=by
     have:=congrArg (fun q:List Int=>q[0]?) hd
     simpa [hx] using this
    have f1:=hp d
    have g1:(j:Int)< (L.length:Int):=by omega
    have g2:=zac hlt (by omega)
    have g3:=zfU hx
    cases h1:p d
    ·rw [h1] at f1
     obtain⟨y,hy⟩: ∃x,L[c]? =some x:=⟨L[c]'(by omega),List.getElem?_eq_getElem (by omega)⟩
     have g4:(c:Int)< (L.length:Int):=by omega
     have g5:IntKind.i64.wrap ((c:Int)+1)=((c+1:Nat):Int):=zac (show c<l.length by omega) (by omega)
     have hq:((l.take (j+1)).filter fun d=> !p d)=(l.take j).filter (fun d=> !p d)++[d]:=by rw [g3,List.filter_append]; simp [h1]
     have hs:(L.map intAV).set c [I d]=(L.set c d).map intAV:=by rw [List.map_set]
     have F:=ai hxL<|ai hy<|ai e0<|ai e1<|ai g1<|ai g2<|ai g4<|ai g5<|hs
     repeat refine st ?_
     refine oL (zb8 rfl (by simp only [go_sem,F]; exact iR)) (f1.lend rfl) (by simp only [go_sem,F]; exact iR) (by simp only [go_sem,F]; exact⟨rfl,rfl⟩) ?_
     repeat refine st ?_
     refine⟨(j+1,L.set c d),⟨⟨hlt,by simpa using hL, ?_, ?_, ?_⟩, ?_, ?_, ?_⟩, ?_, ?_, ?_⟩
     ·simp only [hq,List.length_append,List.length_singleton,hcn]; omega
     ·simp only [hq,List.length_append,List.length_singleton,hcn]
      rw [<-ht]
      apply List.ext_getElem?
      intro k
      rw [List.getElem?_take,List.getElem?_set]
      by_cases hk:k<c
      ·rw [if_pos (by omega),if_neg (by omega),List.getElem?_append_left (by simp; omega),List.getElem?_take,if_pos hk]
      ·by_cases hk2:k=c
       ·subst hk2
        rw [if_pos (by omega),if_pos rfl,if_pos (by omega),List.getElem?_append_right (by rw [List.length_take]; omega),List.length_take,Nat.min_eq_left (by omega)]
        simp
       ·rw [if_neg (by omega),List.getElem?_eq_none (by rw [List.length_append,List.length_take,List.length_singleton]; omega)]
     ·simp only
      rw [List.drop_set_of_lt (by omega)]
      have:=congrArg (List.drop 1) hd
      simpa [List.drop_drop] using this
     ·simp only [go_sem,v1]
     ·simp only [go_sem,e0]
     ·simp only [go_sem,e1]
     ·have hq2:((l.take (j+1)).filter fun d=> !p d).length=c+1:=by rw [hq,List.length_append,hcn]; rfl
      simp only [hq2]
      (simp only [go_sem,F])
     ·(simp only [go_sem,F])
     ·simp only; omega
    ·rw [h1] at f1
     have hq:((l.take (j+1)).filter fun d=> !p d)=(l.take j).filter (fun d=> !p d):=by rw [g3,List.filter_append]; simp [h1]
     have F:=ai hxL<|ai e0<|ai e1<|ai g1<|g2
     repeat refine st ?_
     refine oL (zb8 rfl (by simp only [go_sem,F]; exact iR)) (f1.lend rfl) (by simp only [go_sem,F]; exact iR) (by simp only [go_sem,F]; exact⟨rfl,rfl⟩) ?_
     repeat refine st ?_
     refine⟨(j+1,L),⟨⟨hlt,hL, ?_, ?_, ?_⟩, ?_, ?_, ?_⟩, ?_, ?_, ?_⟩
     ·simp only [hq,hcn]; omega
     ·simp only [hq,hcn]; exact ht
     ·simp only
      have:=congrArg (List.drop 1) hd
      simpa [List.drop_drop] using this
     ·simp only [go_sem,v1]
     ·simp only [go_sem,e0]
     ·simp only [go_sem,e1]
     ·simp only [hq,hcn]
      (simp only [go_sem,F])
     ·(simp only [go_sem,F])
     ·simp only; omega
   ·have g1: ¬(j:Int)< (L.length:Int):=by omega
    have hjl:l.take j=l:=List.take_of_length_le (by omega)
    rw [hjl] at ht hcn
    have g4:(c:Int)<=(L.length:Int):=by omega
    have g5:c<=L.length:=by omega
    have g6: ∀X:List (List AV),((L.take c).map intAV++X).take c=(l.filter fun d=> !p d).map intAV:=fun X=>by
     rw [List.take_left' (by rw [List.length_map,List.length_take]; omega),ht]
    have g7:c+(L.length-c)=L.length:=by omega
    have g8:min c L.length=c:=by omega
    have F:=ai v1<|ai e0<|ai e1<|ai g1<|ai g4<|ai g5<|ai g6<|ai g7<|g8
    repeat (first | refine oO rfl (by simp only [go_sem,List.length_take,List.length_replicate,F]; exact⟨rfl,rfl⟩) ?_ | refine gR ?_ | refine gO ?_ | refine oZ (zb5 ?_) | refine oZ ?_ | refine oS ?_ | refine gT ?_ | refine gD Tryz.mixed ?_ | refine oB ?_ | refine oK ?_ | (refine oX ?_; simp only [zaQ,zaE, ↓reduceIte,Nat.reduceEqDiff,reduceCtorEq]) | refine oY (by simp only [go_sem,List.length_take,List.length_replicate,F]; exact iR) ?_ | refine oN (by simp only [go_sem,List.length_take,List.length_replicate,F]; exact iR) ?_)
    (refine zak ?_; (try simp only [zaQ,zaE, ↓reduceIte,Nat.reduceEqDiff,reduceCtorEq]); refine znb ?_ ?_<;>simp only [go_sem,List.length_take,List.length_replicate,F,implies_true,and_self,imp_self,false_implies,AV.tuple.injEq,exists_eq_left',ne_eq])
end
section
theorem zmy (env:Env) (c:ChD):Con Tryz.prog env 59 [zai c,nilS] nilE:=by
 have q1: ¬(0:Int)<0:=by omega
 unfold zai
 refine zaa Tryz.func59 rfl Tryz.call59 (by rw [Tryz.ntmps59]; simp) ?_
 rw [Tryz.ntmps59,Tryz.results59]
 repeat refine st0 ?_
 refine zab (D:=Unit) (fun _ vs=>[(12,I 0),(13,I 0)]) (fun _ _=>[]) (fun _ _ _=>True) (fun _=>0) () trivial ?_ ?_ ?_
 ·(simp only [go_sem])
  try rfl
 ·(simp only [go_sem])
  try rfl
 rintro _ ws esc _
 have F:=q1
 repeat refine st ?_
 exact aR
theorem zkw (env:Env):Con Tryz.prog env 157 [nilS] nilS:=by
 have q1: ¬(0:Int)<0:=by omega
 refine zaa Tryz.func157 rfl Tryz.call157 (by rw [Tryz.ntmps157]; simp) ?_
 rw [Tryz.ntmps157,Tryz.results157]
 repeat refine st0 ?_
 refine zab (D:=Unit) (fun _ vs=>[(3,nilS),(7,I 0),(8,I 0)]) (fun _ _=>[]) (fun _ _ _=>True) (fun _=>0) () trivial ?_ ?_ ?_
 ·(simp only [go_sem])
  try rfl
 ·(simp only [go_sem])
  try rfl
 rintro _ ws esc _
 have F:=q1
 repeat refine st ?_
 exact aR
theorem zhI (env:Env) (c:ChD) (h:Full c) (hs:Small c) (act gone:List Int) (hl:gone.length<=1000000) (hg: ∀x∈gone,inZ c x=true/\memL c x=[]):Con Tryz.prog env 102 [zai c, .seq 1 (act.map intAV), .seq 1 (gone.map intAV),nilS] nilS:=by
 have f0:=zaG env c hs
 have f1:=zkw env
 have q0: ¬(0:Int)<0:=by omega
 unfold zai at f0 |-
 refine zaa Tryz.func102 rfl Tryz.call102 (by rw [Tryz.ntmps102]; simp) ?_
 rw [Tryz.ntmps102,Tryz.results102]
 repeat (first | refine st0 ?_ | refine cC0 f0 ?_ | refine cC0 f1 ?_)
 refine zab (D:=Nat) (fun j vs=>[(0, .ref 9 [tabCells c] 0 0),(9, .loc 9 (vs 9) 0 0),(10,nilS),(22, .seq 1 (gone.map intAV)),(23,I gone.length),(24,I j)]) (fun _ _=>[(9,⟨5,[chAV c],26,false⟩)]) (fun j _ _=>j<=gone.length) (fun j=>gone.length-j) 0 ?_ ?_ ?_ ?_
 ·exact Nat.zero_le _
 ·(simp only [go_sem])
  try rfl
 ·have F:=chAV.eq_1
  (simp only [go_sem,F])
  try rfl
 rintro j ws esc hj
 by_cases hlt:j<gone.length
 ·obtain⟨x,hx⟩: ∃x,gone[j]? =some x:=⟨gone[j],List.getElem?_eq_getElem hlt⟩
  have q1:=nlt hlt
  have q2:=zac hlt (by omega)
  obtain⟨hz,hm⟩:=hg x (List.mem_of_getElem? hx)
  obtain⟨k,s,rfl,hsk,hat⟩:=zb0 hz
  have hk:=(List.getElem?_eq_some_iff.1 hsk).1
  have q3:((k:Nat):Int)< (c.states.length:Int):=by omega
  have f2:=zlJ env c h k
  rw [hm] at f2
  unfold zai at f2
  by_cases hk1:s.kind=1
  ·have b1:(s.kind==1)=true:=by simp [hk1]
   have F:=ai chAV.eq_1<|ai stAV.eq_1<|ai hx<|ai q1<|ai q2<|ai q3<|ai hsk<|ai b1<|bneA
   repeat (first | refine st ?_ | refine cC f2 ?_)
   refine zab (D:=Unit) (fun _ vs=>[(0, .ref 9 [tabCells c] 0 0),(9, .loc 9 (vs 9) 0 0),(10,nilS),(22, .seq 1 (gone.map intAV)),(23,I gone.length),(24,I j),(38,I 0),(39,I 0)]) (fun _ _=>[(9,⟨5,[chAV c],26,false⟩)]) (fun _ _ _=>True) (fun _=>0) () trivial ?_ ?_ ?_
   ·(simp only [go_sem,F])
    try rfl
   ·have F:=chAV.eq_1
    (simp only [go_sem,F])
    try rfl
   rintro _ us es _
   have F:=ai q0<|q2
   repeat refine st ?_
   refine⟨j+1,hlt, ?_, ?_,by omega⟩
   ·(simp only [go_sem,F])
   ·have F:=chAV.eq_1
    (simp only [go_sem,F])
  ·have b1:(s.kind==1)=false:=by simpa using hk1
   have F:=ai chAV.eq_1<|ai stAV.eq_1<|ai hx<|ai q1<|ai q2<|ai q3<|ai hsk<|ai b1<|bneA
   repeat (first | refine st ?_ | refine cC f2 ?_)
   refine⟨j+1,hlt, ?_, ?_,by omega⟩
   ·(simp only [go_sem,F])
   ·have F:=chAV.eq_1
    (simp only [go_sem,F])
 ·obtain rfl:j=gone.length:=by omega
  have q1: ¬(gone.length:Int)< (gone.length:Int):=by omega
  have F:=q1
  repeat refine st ?_
  exact aR
theorem zpr (env:Env) (G:List Int) (hG:G.length<=1000000) (i:Int):Con Tryz.prog env 104 [I i, .ref 1 [[.seq 1 (G.map intAV)]] 0 0] (B (G.contains i)):=by
 have f0:=zb6 env G i hG
 refine zaa Tryz.func104 rfl Tryz.call104 (by rw [Tryz.ntmps104]; simp) ?_
 rw [Tryz.ntmps104,Tryz.results104]
 repeat (first | refine st0 ?_ | refine cC0 f0 ?_)
 exact aR0
end

end Go.Proofs.YtlmekdfleciejaaGreatDoor