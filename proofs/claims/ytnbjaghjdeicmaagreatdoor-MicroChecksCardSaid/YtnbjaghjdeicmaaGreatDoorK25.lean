/- The law MicroChecks. -/
import Derived.Test.YtnbjaghjdeicmaaGreatDoorK24
import Derived.Test.YtnbjaghjdeicmaaGreatDoorK5
import Derived.Test.YtnbjaghjdeicmaaGreatDoorK13
import Derived.Test.YtnbjaghjdeicmaaGreatDoorK21
import Derived.Test.YtnbjaghjdeicmaaGreatDoorK19
import Derived.Test.YtnbjaghjdeicmaaGreatDoorK10
set_option maxRecDepth 100000
set_option maxHeartbeats 16000000
set_option linter.unusedSimpArgs false
namespace Go.Proofs.YtnbjaghjdeicmaaGreatDoor
section
open Go.RowKit
theorem zm2 (env:Env) (l:List MemD) (hl:l.length<=9223372036854775807) (hm: ∀m∈l,m.2.length<=9223372036854775807):Con Tryz.prog env 69 [.seq 2 (l.map mmAV), .seq 2 (l.map mmAV)] (B true):=by
 refine zaa Tryz.func69 rfl Tryz.call69 (by rw [Tryz.ntmps69]; simp) ?_
 rw [Tryz.ntmps69,Tryz.results69]
 repeat refine st0 ?_
 refine zac (D:=Nat) (fun j vs=>[(0, .seq 2 (l.map mmAV)),(1, .seq 2 (l.map mmAV)),(5,I j)]) (fun _ _=>[]) (fun j _ _=>j<=l.length) (fun j=>l.length-j) 0 ?_ ?_ ?_ ?_
 ·exact Nat.zero_le _
 ·(simp only [go_sem])
  try rfl
 ·(simp only [go_sem])
  try rfl
 rintro j ws esc hj
 by_cases hlt:j<l.length
 ·obtain⟨x,hx⟩: ∃x,l[j]? =some x:=⟨l[j],List.getElem?_eq_getElem hlt⟩
  have q1:=nlt hlt
  have q2:=zab hlt (by omega)
  have hxl:=hm x (List.mem_of_getElem? hx)
  have F:=ai mmAV.eq_1<|ai hx<|q1
  repeat refine st ?_
  refine zac (D:=Nat) (fun k vs=>[(0, .seq 2 (l.map mmAV)),(1, .seq 2 (l.map mmAV)),(5,I j),(6,I k)]) (fun _ _=>[]) (fun k _ _=>k<=x.2.length) (fun k=>x.2.length-k) 0 ?_ ?_ ?_ ?_
  ·exact Nat.zero_le _
  ·(simp only [go_sem,F])
   try rfl
  ·(simp only [go_sem,F])
   try rfl
  rintro k us es hk
  by_cases hlt2:k<x.2.length
  ·obtain⟨y,hy⟩: ∃y,x.2[k]? =some y:=⟨x.2[k],List.getElem?_eq_getElem hlt2⟩
   have p1:=nlt hlt2
   have p2:=zab hlt2 (by omega)
   have F:=ai mmAV.eq_1<|ai hx<|ai hy<|ai q1<|ai p1<|p2
   repeat (first | refine oO rfl (by simp only [go_sem,intAV,F]; exact⟨rfl,rfl⟩) ?_ | refine gR ?_ | refine gO ?_ | refine oZ (zau ?_) | refine oZ ?_ | refine oS ?_ | refine gT ?_ | refine gD Tryz.mixed ?_ | refine oB ?_ | refine oK ?_ | (refine oX ?_; simp only [zam,zag, ↓reduceIte,Nat.reduceEqDiff,reduceCtorEq]) | refine oY (by simp only [go_sem,intAV,F]; exact iR) ?_ | refine oN (by simp only [go_sem,intAV,F]; exact iR) ?_)
   refine⟨k+1,hlt2, ?_, ?_,by omega⟩
   ·(simp only [go_sem,intAV,F])
   ·(simp only [go_sem,intAV,F])
  ·obtain rfl:k=x.2.length:=by omega
   have p1: ¬(x.2.length:Int)< (x.2.length:Int):=by omega
   have F:=ai mmAV.eq_1<|ai hx<|ai q1<|ai q2<|p1
   repeat refine st ?_
   refine⟨j+1,hlt, ?_, ?_,by omega⟩
   ·(simp only [go_sem,F])
   ·(simp only [go_sem,F])
 ·obtain rfl:j=l.length:=by omega
  have q1: ¬(l.length:Int)< (l.length:Int):=by omega
  have F:=q1
  repeat refine st ?_
  exact aR
theorem zgm (env:Env) (A V:List Int) (x:InD) (h:zpJ x) (hA:A.length=x.1.length) (hV:V.length=x.2.1.length):Con Tryz.prog env 23 [.agg (inE (A,V,x.2.2)), .agg (inE x)] (B ((A==x.1)&&(V==x.2.1))):=by
 have h0:maxLen=9223372036854775807:=rfl
 have f0:=zm2 env x.2.2.1 (h0 ▸ h.2.1.1) fun m hm=>h0 ▸ h.2.1.2 m hm
 have hT:x.2.2.2.1.length<=9223372036854775807:=h0 ▸ h.2.2.1
 have hA2:x.1.length<=9223372036854775807:=h0 ▸ h.1.1
 have hV2:x.2.1.length<=9223372036854775807:=h0 ▸ h.1.2
 have k1:((A.length:Int) != (x.1.length:Int))=false:=by simp [hA]
 have k2:((V.length:Int) != (x.2.1.length:Int))=false:=by simp [hV]
 refine zaa Tryz.func23 rfl Tryz.call23 (by rw [Tryz.ntmps23]; simp) ?_
 rw [Tryz.ntmps23,Tryz.results23]
 have F:=ai k1<|k2
 repeat (first | refine oO rfl (by simp only [go_sem,inE,F]; exact⟨rfl,rfl⟩) ?_ | refine gR ?_ | refine gO ?_ | refine oC rfl (f0) (by simp only [go_sem,inE,F]; exact iR) (by simp only [go_sem,inE,F]; exact⟨rfl,rfl⟩) ?_ | refine oZ (zau ?_) | refine oZ ?_ | refine oS ?_ | refine gT ?_ | refine gD Tryz.mixed ?_ | refine oB ?_ | refine oK ?_ | (refine oX ?_; simp only [zam,zag, ↓reduceIte,Nat.reduceEqDiff,reduceCtorEq]) | refine oY (by simp only [go_sem,inE,F]; exact iR) ?_ | refine oN (by simp only [go_sem,inE,F]; exact iR) ?_)
 refine zac (D:=Nat) (fun i vs=>[(2, .loc 2 (vs 2) 0 0),(3, .loc 3 (vs 3) 0 0),(5,I i)]) (fun _ _=>[(2,⟨5,[inE (A,V,x.2.2)],31,false⟩),(3,⟨5,[inE x],31,false⟩)]) (fun i _ _=>i<=x.2.2.2.1.length) (fun i=>x.2.2.2.1.length-i) 0 ?_ ?_ ?_ ?_
 ·exact Nat.zero_le _
 ·(simp only [go_sem,inE,F])
 ·(simp only [go_sem,inE])
 rintro i ws esc hi
 by_cases hlt:i<x.2.2.2.1.length
 ·obtain⟨t,ht⟩: ∃t,x.2.2.2.1[i]? =some t:=⟨x.2.2.2.1[i],List.getElem?_eq_getElem hlt⟩
  have q1:=nlt hlt
  have q2:=zab hlt (by omega)
  have F:=ai tmAV.eq_1<|ai q1<|ai q2<|ht
  repeat (first | refine oO rfl (by simp only [go_sem,inE,F]; exact⟨rfl,rfl⟩) ?_ | refine gR ?_ | refine gO ?_ | refine oZ (zau ?_) | refine oZ ?_ | refine oS ?_ | refine gT ?_ | refine gD Tryz.mixed ?_ | refine oB ?_ | refine oK ?_ | (refine oX ?_; simp only [zam,zag, ↓reduceIte,Nat.reduceEqDiff,reduceCtorEq]) | refine oY (by simp only [go_sem,inE,F]; exact iR) ?_ | refine oN (by simp only [go_sem,inE,F]; exact iR) ?_)
  refine⟨i+1,hlt, ?_, ?_,by omega⟩
  ·(simp only [go_sem,inE,F])
  ·(simp only [go_sem,inE])
 have q1: ¬(i:Int)< (x.2.2.2.1.length:Int):=by omega
 have F:=q1
 repeat (first | refine oO rfl (by simp only [go_sem,inE,F]; exact⟨rfl,rfl⟩) ?_ | refine gR ?_ | refine gO ?_ | refine oZ (zau ?_) | refine oZ ?_ | refine oS ?_ | refine gT ?_ | refine gD Tryz.mixed ?_ | refine oB ?_ | refine oK ?_ | (refine oX ?_; simp only [zam,zag, ↓reduceIte,Nat.reduceEqDiff,reduceCtorEq]) | refine oY (by simp only [go_sem,inE,F]; exact iR) ?_ | refine oN (by simp only [go_sem,inE,F]; exact iR) ?_)
 try clear hi hlt q1
 refine zac (D:=Nat) (fun i vs=>[(2, .loc 2 (vs 2) 0 0),(3, .loc 3 (vs 3) 0 0),(6,I i)]) (fun _ _=>[(2,⟨5,[inE (A,V,x.2.2)],31,false⟩),(3,⟨5,[inE x],31,false⟩)]) (fun i _ _=>i<=A.length/\A.take i=x.1.take i) (fun i=>A.length-i) 0 ?_ ?_ ?_ ?_
 ·exact⟨Nat.zero_le _,rfl⟩
 ·(simp only [go_sem,inE,F])
 ·(simp only [go_sem,inE])
 try clear ws esc
 rintro i ws esc ⟨hi,ht⟩
 by_cases hlt:i<A.length
 ·obtain⟨u,hu,_⟩:=zan hlt
  obtain⟨v,hv,_⟩:=zan (show i<x.1.length by omega)
  have q1:=nlt hlt
  have q3:=nlt (show i<x.1.length by omega)
  have q2:=zab hlt (by omega)
  cases e:(u==v)
  ·rw [zf1 hu hv (by simpa using e)]
   have F:=ai q1<|ai q2<|ai q3<|ai hu<|ai hv<|ai e<|bneA
   repeat (first | refine oO rfl (by simp only [go_sem,inE,intAV,F]; exact⟨rfl,rfl⟩) ?_ | refine gR ?_ | refine gO ?_ | refine oZ (zau ?_) | refine oZ ?_ | refine oS ?_ | refine gT ?_ | refine gD Tryz.mixed ?_ | refine oB ?_ | refine oK ?_ | (refine oX ?_; simp only [zam,zag, ↓reduceIte,Nat.reduceEqDiff,reduceCtorEq]) | refine oY (by simp only [go_sem,inE,intAV,F]; exact iR) ?_ | refine oN (by simp only [go_sem,inE,intAV,F]; exact iR) ?_)
   (refine zae ?_; show (zar _ _ _).run _=some _; simp only [go_sem,inE,intAV,F])
  ·have F:=ai q1<|ai q2<|ai q3<|ai hu<|ai hv<|ai e<|bneA
   repeat (first | refine oO rfl (by simp only [go_sem,inE,intAV,F]; exact⟨rfl,rfl⟩) ?_ | refine gR ?_ | refine gO ?_ | refine oZ (zau ?_) | refine oZ ?_ | refine oS ?_ | refine gT ?_ | refine gD Tryz.mixed ?_ | refine oB ?_ | refine oK ?_ | (refine oX ?_; simp only [zam,zag, ↓reduceIte,Nat.reduceEqDiff,reduceCtorEq]) | refine oY (by simp only [go_sem,inE,intAV,F]; exact iR) ?_ | refine oN (by simp only [go_sem,inE,intAV,F]; exact iR) ?_)
   refine⟨i+1,⟨hlt,take_same ht hu hv (by simpa using e)⟩, ?_, ?_,by omega⟩
   ·(simp only [go_sem,inE,intAV,F])
   ·(simp only [go_sem,inE])
 have q1: ¬(i:Int)< (A.length:Int):=by omega
 rw [zin ht (by omega) (by omega),Bool.true_and]
 have F:=q1
 repeat (first | refine oO rfl (by simp only [go_sem,inE,F]; exact⟨rfl,rfl⟩) ?_ | refine gR ?_ | refine gO ?_ | refine oZ (zau ?_) | refine oZ ?_ | refine oS ?_ | refine gT ?_ | refine gD Tryz.mixed ?_ | refine oB ?_ | refine oK ?_ | (refine oX ?_; simp only [zam,zag, ↓reduceIte,Nat.reduceEqDiff,reduceCtorEq]) | refine oY (by simp only [go_sem,inE,F]; exact iR) ?_ | refine oN (by simp only [go_sem,inE,F]; exact iR) ?_)
 try clear hi hlt q1 ht
 refine zac (D:=Nat) (fun i vs=>[(2, .loc 2 (vs 2) 0 0),(3, .loc 3 (vs 3) 0 0),(7,I i)]) (fun _ _=>[(2,⟨5,[inE (A,V,x.2.2)],31,false⟩),(3,⟨5,[inE x],31,false⟩)]) (fun i _ _=>i<=V.length/\V.take i=x.2.1.take i) (fun i=>V.length-i) 0 ?_ ?_ ?_ ?_
 ·exact⟨Nat.zero_le _,rfl⟩
 ·(simp only [go_sem,inE,F])
 ·(simp only [go_sem,inE])
 try clear ws esc
 rintro i ws esc ⟨hi,ht⟩
 by_cases hlt:i<V.length
 ·obtain⟨u,hu,_⟩:=zan hlt
  obtain⟨v,hv,_⟩:=zan (show i<x.2.1.length by omega)
  have q1:=nlt hlt
  have q3:=nlt (show i<x.2.1.length by omega)
  have q2:=zab hlt (by omega)
  cases e:(u==v)
  ·rw [zf1 hu hv (by simpa using e)]
   have F:=ai q1<|ai q2<|ai q3<|ai hu<|ai hv<|ai e<|bneA
   repeat (first | refine oO rfl (by simp only [go_sem,inE,intAV,F]; exact⟨rfl,rfl⟩) ?_ | refine gR ?_ | refine gO ?_ | refine oZ (zau ?_) | refine oZ ?_ | refine oS ?_ | refine gT ?_ | refine gD Tryz.mixed ?_ | refine oB ?_ | refine oK ?_ | (refine oX ?_; simp only [zam,zag, ↓reduceIte,Nat.reduceEqDiff,reduceCtorEq]) | refine oY (by simp only [go_sem,inE,intAV,F]; exact iR) ?_ | refine oN (by simp only [go_sem,inE,intAV,F]; exact iR) ?_)
   (refine zae ?_; show (zar _ _ _).run _=some _; simp only [go_sem,inE,intAV,F])
  ·have F:=ai q1<|ai q2<|ai q3<|ai hu<|ai hv<|ai e<|bneA
   repeat (first | refine oO rfl (by simp only [go_sem,inE,intAV,F]; exact⟨rfl,rfl⟩) ?_ | refine gR ?_ | refine gO ?_ | refine oZ (zau ?_) | refine oZ ?_ | refine oS ?_ | refine gT ?_ | refine gD Tryz.mixed ?_ | refine oB ?_ | refine oK ?_ | (refine oX ?_; simp only [zam,zag, ↓reduceIte,Nat.reduceEqDiff,reduceCtorEq]) | refine oY (by simp only [go_sem,inE,intAV,F]; exact iR) ?_ | refine oN (by simp only [go_sem,inE,intAV,F]; exact iR) ?_)
   refine⟨i+1,⟨hlt,take_same ht hu hv (by simpa using e)⟩, ?_, ?_,by omega⟩
   ·(simp only [go_sem,inE,intAV,F])
   ·(simp only [go_sem,inE])
 have q1: ¬(i:Int)< (V.length:Int):=by omega
 rw [zin ht (by omega) (by omega)]
 have F:=q1
 repeat (first | refine oO rfl (by simp only [go_sem,inE,F]; exact⟨rfl,rfl⟩) ?_ | refine gR ?_ | refine gO ?_ | refine oZ (zau ?_) | refine oZ ?_ | refine oS ?_ | refine gT ?_ | refine gD Tryz.mixed ?_ | refine oB ?_ | refine oK ?_ | (refine oX ?_; simp only [zam,zag, ↓reduceIte,Nat.reduceEqDiff,reduceCtorEq]) | refine oY (by simp only [go_sem,inE,F]; exact iR) ?_ | refine oN (by simp only [go_sem,inE,F]; exact iR) ?_)
 (refine zae ?_; show (zar _ _ _).run _=some _; simp only [go_sem,inE,F])
end
section
open Go.RowKit Go.ChangeShapes Go.WideShapes Go.ChangeAt Go.Deep
def WB {H:Type} (P:Program) (t:TypeId) (d:DataW H):Prop:= ∀z∈DataW.weights P t d,z<=reachBytes
section
variable {H:Type} {enc:TypeId×Value->H} {P:Program} {w:World} {base:Nat} {spare:Nat->Bool} {held:Bool}
theorem zlL {e:TypeId} {d:DataW H} : ∀ {l:List (DataW H)},d∈l-> ∀z∈DataW.weights P e d,z∈DataW.weightsAll P e l
 | a::r,h,z,hz=>by
   unfold DataW.weightsAll
   rcases List.mem_cons.1 h with rfl | h
   ·exact List.mem_append_left _ hz
   ·exact List.mem_append_right _ (zlL h z hz)
theorem WB.elem {t e:TypeId} {es rs:List (DataW H)} (ht:P.underlying t=some (.slice e)) (h:WB P t (.slice es rs)) {d:DataW H} (hd:d∈es):WB P e d:=fun z hz=>by
 refine h z ?_
 unfold DataW.weights
 rw [ht]
 exact List.mem_cons_of_mem _ (List.mem_append_left _ (zlL hd z hz))
theorem WB.size {t e:TypeId} {es rs:List (DataW H)} (ht:P.underlying t=some (.slice e)) (h:WB P t (.slice es rs)):es.length*P.bytesOf e<=reachBytes:=by
 refine Nat.le_trans ?_ (h ((es.length+rs.length)*P.bytesOf e) ?_)
 ·exact Nat.mul_le_mul_right _ (Nat.le_add_right ..)
 ·unfold DataW.weights
  rw [ht]
  exact List.mem_cons_self ..
theorem zfZ: ∀ {ts:List TypeId} {l:List (DataW H)} {i:Nat} {t:TypeId} {d:DataW H},ts[i]? =some t->l[i]? =some d-> ∀z∈DataW.weights P t d,z∈DataW.weightsEach P ts l
 | t::ts,d::l,0,_,_,rfl,rfl,z,hz=>by unfold DataW.weightsEach; exact List.mem_append_left _ hz
 | t::ts,d::l,i+1,_,_,h1,h2,z,hz=>by
   unfold DataW.weightsEach
   exact List.mem_append_right _ (zfZ (i:=i) (by simpa using h1) (by simpa using h2) z hz)
 | [],_,i,_,_,h1,_,z,hz=>by simp at h1
 | _::_,[],i,_,_,_,h2,z,hz=>by simp at h2
theorem WB.part {t:TypeId} {fs:Array Field} {ps:List (DataW H)} (ht:P.underlying t=some (.struct fs)) (h:WB P t (.agg ps)) {i:Nat} {f:Field} {d:DataW H} (hf:fs[i]? =some f) (hd:ps[i]? =some d):WB P f.type d:=fun z hz=>by
 refine h z ?_
 unfold DataW.weights
 rw [ht]
 refine zfZ (i:=i) ?_ hd z hz
 rw [List.getElem?_map,Array.getElem?_toList,hf]
 rfl
theorem znf {α:Type} {t e:TypeId} {size fuel:Nat} {R:List Value->α->Prop} {cs:List Value} {x:DataW H×List MemPlace} (ht:P.underlying t=some (.slice e)) (hC:P.cellsOf e=size) (hpos:0<size)
 (hR: ∀(m:Nat) (cs:List Value) (y:DataW H×List MemPlace),DataW.trod enc P w base spare held m e cs=some y->WB P e y.1-> ∃a,R cs a) (hw:WB P t x.1)
 (h:DataW.trod enc P w base spare held fuel t cs=some x): ∃v l,cs=[v]/\zcF w w.heap.size size R v l:=by
 rcases open_slice ht h with⟨rfl,_⟩ | ⟨a,len,cap,m,n,D,Pl,rfl,hb,hl,hm,hmm,rfl,hx⟩
 ·exact⟨_,[],rfl,none,0,[],rfl,Nat.le_refl _,Nat.zero_le _,Reads.empty _ _ _ _,by simp,fun i hi=>by simp at hi⟩
 have hlm:len<=m:=by rw [hmm]; split<;>omega
 rw [hC] at hx
 have hch: ∀i,∃cs':List Value,i<len->w.cells? base (a.add (i*size)) size=some cs'/\DataW.trod enc P w base spare held n e cs'=some (D i,Pl i):=fun i=>by
  by_cases hi:i<len
  ·obtain⟨cs',h1,h2⟩:=hx i (by omega)
   exact⟨cs',fun _=>⟨h1,h2⟩⟩
  ·exact⟨[],fun h=>absurd h hi⟩
 let f:Nat->List Value:=fun i=>(hch i).choose
 have hf: ∀i,i<len->w.cells? base (a.add (i*size)) size=some (f i)/\DataW.trod enc P w base spare held n e (f i)=some (D i,Pl i):=fun i hi=>(hch i).choose_spec hi
 have hfl: ∀i,i<len->(f i).length=size:=fun i hi=>(World.cells?_some (hf i hi).1).2.1
 obtain⟨l,hll,hl2⟩:=zpb (n:=len) (p:=fun i a=>R (f i) a) fun i hi=>hR _ _ _ (hf i hi).2 (WB.elem ht hw (List.mem_map.2 ⟨i,List.mem_range.2 hi,rfl⟩))
 refine⟨_,l,rfl,some a,cap,(List.range len).flatMap f,by rw [hll],by omega,by omega,⟨by rw [hll,flat_len f size len hfl],fun hn=> ?_⟩,by rw [hll,flat_len f size len hfl],fun i hi=> ?_⟩
 ·rw [hll] at hn
  have h0:=World.cells?_some (hf 0 hn).1
  have hc0:=h0.2.2 0 hpos
  have hsp:a.spot=none:=by
   rw [Nat.zero_mul] at hc0
   have:(f 0)[0]? =some ((f 0)[0]'(by rw [hfl 0 hn]; exact hpos)):=List.getElem?_eq_getElem _
   rw [this] at hc0
   have e:(a.add 0).add 0=a:=rfl
   rw [e] at hc0
   unfold World.cell? at hc0
   cases hs:a.spot with
   | none=>rfl
   | some s=>
     rw [hs] at hc0
     split at hc0<;>simp at hc0
  obtain⟨b,off,sp⟩:=a
  simp only at hsp
  subst hsp
  have hcell: ∀j u,((List.range len).flatMap f)[j]? =some u->w.cell? ⟨b,off+j,none⟩=some u:=by
   intro j u hu
   have hj:j<len*size:=by
    rcases Nat.lt_or_ge j (len*size) with h | h
    ·exact h
    ·rw [List.getElem?_eq_none (by rw [flat_len f size len hfl]; exact h)] at hu
     cases hu
   have hq:j/size<len:=Nat.div_lt_of_lt_mul (by rw [Nat.mul_comm]; exact hj)
   have hr:j%size<size:=Nat.mod_lt _ hpos
   have hpart:=zdD f size len hfl (j/size) hq
   have e:j=j/size*size+j%size:=by rw [Nat.mul_comm]; exact(Nat.div_add_mod j size).symm
   have hget:(f (j/size))[j%size]? =some u:=by
    rw [<-hpart,List.getElem?_take,if_pos hr,List.getElem?_drop, <-e]
    exact hu
   have:=(World.cells?_some (hf _ hq).1).2.2 (j%size) hr
   rw [hget,add_plain,add_plain,Nat.add_assoc, <-e] at this
   exact this
  refine⟨b,off,rfl, ?_,hcell⟩
  have hx0:((List.range len).flatMap f)[0]? =some (((List.range len).flatMap f)[0]'(by rw [flat_len f size len hfl]; exact Nat.mul_pos hn hpos)):=List.getElem?_eq_getElem _
  exact World.block_lt_of_cell? w ⟨b,off+0,none⟩ (hcell 0 _ hx0)
 ·rw [zdD f size len hfl i (by omega)]
  exact hl2 i hi
end
section
variable {H:Type} {enc:TypeId×Value->H} {P:Program} {w:World} {base:Nat} {spare:Nat->Bool} {held:Bool}
theorem zeY {α:Type} {t e:TypeId} {size fuel:Nat} {cs:List Value} {x:DataW H×List MemPlace} (en:α->List AV) (few:α->Prop) (hen: ∀a,(en a).length=size) (ht:P.underlying t=some (.slice e)) (hC:P.cellsOf e=size) (hpos:0<size)
 (hR: ∀(m:Nat) (cs:List Value) (y:DataW H×List MemPlace),DataW.trod enc P w base spare held m e cs=some y->WB P e y.1-> ∃a,RE w en few cs a) (hw:WB P t x.1)
 (h:DataW.trod enc P w base spare held fuel t cs=some x): ∃(v:Value) (l:List α),cs=[v]/\(v.oneCell'=true/\RV (fun b _=>b<w.heap.size) w v (.seq size (l.map en)))/\(l.length<=maxLen/\l.length*P.bytesOf e<=reachBytes)/\ ∀a∈l,few a:=by
 obtain⟨v,l,e1,hl⟩:=znf (R:=RE w en few) ht hC hpos hR hw h
 have hrv:=zpa en hen hl fun cs a _ hr j u c hu hc=>hr.1.at_.2 j u c hu hc
 obtain⟨A,c,xs,rfl,_,h2,_,hrow⟩:=hl
 refine⟨_,l,e1,⟨rfl,hrv⟩,⟨h2, ?_⟩,fun a ha=> ?_⟩
 ·rcases DataW.trod_slice ht h with⟨e2,_⟩ | ⟨a,len,cap,elems,rest,n,_,e2,e3,_,_,_,hlen,_⟩
  ·rw [e1] at e2
   have e4:l.length=0:=by injection e2 with q1 _; injection q1
   rw [e4,Nat.zero_mul]
   exact Nat.zero_le _
  ·rw [e1] at e2
   have e4:l.length=len:=by injection e2 with q1 _; injection q1
   rw [e3] at hw
   have:=hw.size ht
   rw [List.length_map,hlen] at this
   rw [e4]
   exact this
 ·obtain⟨i,hi,rfl⟩:=List.getElem_of_mem ha
  exact(hrow.2 i hi).2
end
theorem zty:Tryz.prog.bytesOf 3=8:=by kernel_rfl
def zpI (m:MemD):Prop:=m.2.length<=maxLen/\m.2.length*8<=reachBytes
section
variable {H:Type} {enc:TypeId×Value->H} {w:World} {base:Nat} {spare:Nat->Bool} {held:Bool}
theorem zoX (m:Nat) (cs:List Value) (y:DataW H×List MemPlace) (h:DataW.trod enc Tryz.prog w base spare held m 85 cs=some y) (hw:WB Tryz.prog 85 y.1): ∃a:MemD,RE w mmAV zpI cs a:=by
 obtain⟨xs,n,_,hx,hl,hxl,hg⟩:=DataW.trod_struct Tryz.underlying85 h
 rw [ztv] at hl
 obtain⟨c0,c1,rfl⟩:=zrd hl
 obtain⟨y0,h0⟩:=zbb hxl hg 0 _ rfl 3 0 1 rfl rfl c_int
 obtain⟨x0,e0, -, -⟩:=DataW.trod_int Tryz.underlying3 (show DataW.trod enc Tryz.prog w base spare held n 3 [c0]=some y0 from h0)
 cases e0
 have hx2:xs.length=2:=hxl
 obtain⟨y1,hy1⟩: ∃y1,xs[1]? =some y1:=⟨xs[1]'(by omega),List.getElem?_eq_getElem _⟩
 obtain⟨y2,h1⟩:=zbb hxl hg 1 _ rfl 27 1 1 rfl rfl zqe
 have h2:DataW.trod enc Tryz.prog w base spare held n 27 [c1]=xs[1]? :=by
  have:=hg 1 _ rfl
  exact this
 have h1:DataW.trod enc Tryz.prog w base spare held n 27 [c1]=some y1:=h2.trans hy1
 rw [hx] at hw
 have hw1:WB Tryz.prog 27 y1.1:=WB.part (i:=1) Tryz.underlying85 hw rfl (by rw [List.getElem?_map,hy1]; rfl)
 obtain⟨x1,l1,e1,r1,⟨n1,n2⟩, -⟩:=zeY (size:=1) intAV (fun _=>True) (fun _=>rfl) Tryz.underlying27 c_int (by decide) (fun m cs y h _=>open_int1 m cs y h) hw1 h1
 cases e1
 rw [zty] at n2
 exact⟨(x0,l1),⟨⟨rfl, .lit _⟩,r1,trivial⟩,n1,n2⟩
end
end
section
open Go.RowKit Go.ChangeShapes Go.WideShapes Go.ChangeAt Go.Deep
theorem ztN:Tryz.prog.bytesOf 114=24:=by kernel_rfl
theorem zsO:Tryz.prog.cellsOf 50=13:=by kernel_rfl
def ziQ (x:InD):Prop:=zpJ x/\(∀m∈x.2.2.1,m.2.length*8<=reachBytes)/\x.2.2.2.1.length*24<=reachBytes
theorem zte {l:List Value} (h:l.length=13): ∃a b c d e f g i j k m n o,l=[a,b,c,d,e,f,g,i,j,k,m,n,o]:=by
 match l,h with
 | [a,b,c,d,e,f,g,i,j,k,m,n,o],_=>exact⟨a,b,c,d,e,f,g,i,j,k,m,n,o,rfl⟩
section
variable {H:Type} {enc:TypeId×Value->H} {w:World} {base:Nat} {spare:Nat->Bool} {held:Bool}
theorem zng (m:Nat) (cs:List Value) (y:DataW H×List MemPlace) (h:DataW.trod enc Tryz.prog w base spare held m 31 cs=some y) (hw:WB Tryz.prog 31 y.1): ∃a:InD,RE w inE ziQ cs a:=by
 obtain⟨xs,n,_,hx,hl,hxl,hg⟩:=DataW.trod_struct Tryz.underlying31 h
 rw [hx] at hw
 have hxk:xs.length=5:=hxl
 rw [ztw] at hl
 obtain⟨c0,c1,c2,c3,c4,rfl⟩:=zsB hl
 obtain⟨y0,h0⟩:=zbb hxl hg 0 _ rfl 27 0 1 rfl rfl zqe
 obtain⟨x0,l0,e0,r0,n0, -⟩:=zbp (size:=1) intAV (fun _=>True) (fun _=>rfl) Tryz.underlying27 c_int (by decide) open_int1 (show DataW.trod enc Tryz.prog w base spare held n 27 [c0]=some y0 from h0)
 cases e0
 obtain⟨y1,h1⟩:=zbb hxl hg 1 _ rfl 27 1 1 rfl rfl zqe
 obtain⟨x1,l1,e1,r1,n1, -⟩:=zbp (size:=1) intAV (fun _=>True) (fun _=>rfl) Tryz.underlying27 c_int (by decide) open_int1 (show DataW.trod enc Tryz.prog w base spare held n 27 [c1]=some y1 from h1)
 cases e1
 obtain⟨y2,hy2⟩: ∃z,xs[2]? =some z:=⟨xs[2]'(by omega),List.getElem?_eq_getElem _⟩
 have h2:DataW.trod enc Tryz.prog w base spare held n 28 [c2]=some y2:=by
  have:=hg 2 _ rfl
  exact Eq.trans (show DataW.trod enc Tryz.prog w base spare held n 28 [c2]=xs[2]? from this) hy2
 have hw2:WB Tryz.prog 28 y2.1:=WB.part (i:=2) Tryz.underlying31 hw rfl (by rw [List.getElem?_map,hy2]; rfl)
 obtain⟨x2,l2,e2,r2,⟨n2, -⟩,p2⟩:=zeY (size:=2) mmAV zpI (fun _=>rfl) Tryz.underlying28 ztv (by decide) zoX hw2 h2
 cases e2
 obtain⟨y3,hy3⟩: ∃z,xs[3]? =some z:=⟨xs[3]'(by omega),List.getElem?_eq_getElem _⟩
 have h3:DataW.trod enc Tryz.prog w base spare held n 29 [c3]=some y3:=by
  have:=hg 3 _ rfl
  exact Eq.trans (show DataW.trod enc Tryz.prog w base spare held n 29 [c3]=xs[3]? from this) hy3
 have hw3:WB Tryz.prog 29 y3.1:=WB.part (i:=3) Tryz.underlying31 hw rfl (by rw [List.getElem?_map,hy3]; rfl)
 obtain⟨x3,l3,e3,r3,⟨n3,k3⟩,p3⟩:=zeY (size:=2) tmAV zmj (fun _=>rfl) Tryz.underlying29 c_tm (by decide) (fun m cs y h _=>zss m cs y h) hw3 h3
 cases e3
 rw [ztN] at k3
 obtain⟨y4,h4⟩:=zbb hxl hg 4 _ rfl 4 4 1 rfl rfl ztx
 obtain⟨x4,e4, -⟩:=DataW.trod_bool Tryz.underlying4 (show DataW.trod enc Tryz.prog w base spare held n 4 [c4]=some y4 from h4)
 cases e4
 exact⟨(l0,l1,l2,l3,x4),⟨r0,r1,r2,r3,⟨rfl, .lit _⟩,trivial⟩,⟨⟨n0,n1⟩,⟨n2,fun m hm=>(p2 m hm).1⟩,n3,p3⟩,fun m hm=>(p2 m hm).2,k3⟩
theorem znh {r0:Reach} {b0:Nat} {v:Value} {d:DataW H} {p:List MemPlace} (hv:Value.okWide Tryz.prog w r0 b0 50 v) (hw:WB Tryz.prog 50 d) (h:DataW.Trod enc Tryz.prog w base spare held 50 v d p):
 ∃(c:ChD) (x:InD) (ev:List UInt8) (dt n:Int),zd9 c/\ziQ x/\RV (fun b _=>b<w.heap.size) w v (.agg (zaH c x ev dt n)):=by
 obtain⟨cs,rfl,hsz⟩:=okWide_struct Tryz.underlying50 hv
 obtain⟨l⟩:=cs
 obtain⟨fuel,hf⟩:=h
 obtain⟨xs,n,_,hx,hl,hxl,hg⟩:=DataW.trod_struct Tryz.underlying50 hf
 rw [zsO] at hl
 obtain⟨c0,c1,c2,c3,c4,c5,c6,c7,c8,c9,c10,c11,c12,rfl⟩:=zte (show l.length=13 from hl)
 have hxk:xs.length=5:=hxl
 have hd:d= .agg (xs.map (·.1)):=congrArg (·.1) hx
 rw [hd] at hw
 obtain⟨y0,h0⟩:=zbb hxl hg 0 _ rfl 26 0 5 rfl rfl c_ch
 obtain⟨c,q1,q2⟩:=zst _ _ _ h0
 obtain⟨y1,hy1⟩: ∃z,xs[1]? =some z:=⟨xs[1]'(by omega),List.getElem?_eq_getElem _⟩
 have h1:DataW.trod enc Tryz.prog w base spare held n 31 [c5,c6,c7,c8,c9]=some y1:=by
  have:=hg 1 _ rfl
  exact Eq.trans (show DataW.trod enc Tryz.prog w base spare held n 31 [c5,c6,c7,c8,c9]=xs[1]? from this) hy1
 have hw1:WB Tryz.prog 31 y1.1:=WB.part (i:=1) Tryz.underlying50 hw rfl (by rw [List.getElem?_map,hy1]; rfl)
 obtain⟨x,k1,k2⟩:=zng _ _ _ h1 hw1
 obtain⟨y2,h2⟩:=zbb hxl hg 2 _ rfl 9 10 1 rfl rfl zdd
 obtain⟨x2,e2, -,s2⟩:=DataW.trod_string Tryz.underlying9 (show DataW.trod enc Tryz.prog w base spare held n 9 [c10]=some y2 from h2)
 cases e2
 obtain⟨⟨t2⟩⟩:=x2
 obtain⟨y3,h3⟩:=zbb hxl hg 3 _ rfl 3 11 1 rfl rfl c_int
 obtain⟨x3,e3, -, -⟩:=DataW.trod_int Tryz.underlying3 (show DataW.trod enc Tryz.prog w base spare held n 3 [c11]=some y3 from h3)
 cases e3
 obtain⟨y4,h4⟩:=zbb hxl hg 4 _ rfl 3 12 1 rfl rfl c_int
 obtain⟨x4,e4, -, -⟩:=DataW.trod_int Tryz.underlying3 (show DataW.trod enc Tryz.prog w base spare held n 3 [c12]=some y4 from h4)
 cases e4
 exact⟨c,x,t2,x3,x4,q2,k2,RVs.agg (show RVs _ w ([c0,c1,c2,c3,c4]++([c5,c6,c7,c8,c9]++[.string ⟨⟨t2⟩⟩, .int .i64 x3, .int .i64 x4])) (chAV c++(inE x++[Sg t2,I x3,I x4])) from RVs.app q1 (RVs.app k1 ⟨⟨rfl, .lit _⟩,⟨rfl, .lit _⟩,⟨rfl, .lit _⟩,trivial⟩))⟩
end
end
section
open Go.RowKit
abbrev nilQ:AV:= .lit (.pointer none)
end
section
open Go.RowKit
theorem zna (env:Env) (a:Addr) (h7:env 0=some (sentV a)) (x:InD):Con Tryz.prog env 36 [nilQ, .agg (inE x)] (errV (-1) (sentV a)):=by
 have g1:=ziL h7
 have f1:=zca env [109,105,99,114,111,46,67,104,101,99,107] a
 unfold inE
 refine zaa Tryz.func36 rfl Tryz.call36 (by rw [Tryz.ntmps36]; simp) ?_
 rw [Tryz.ntmps36,Tryz.results36]
 have F:=g1
 repeat (first | refine st ?_ | refine cC f1 ?_)
 exact aR
def rcI (x:InD):Rc:=⟨0,0,0,x.1,x.2.1,x.2.2.1,x.2.2.2.1,x.2.2.2.2⟩
theorem zsG (x:InD):inAV (rcI x)=inE x:=rfl
theorem zm3 (x:InD):zm4 x x=true:=by simp [zm4]
theorem zqS (A V:List Int) (x:InD):zm4 (A,V,x.2.2) x=((A==x.1)&&(V==x.2.1)):=by simp [zm4]
def splZ (L:List Int) (k:Nat):List Int:=List.replicate k (-7)++L.drop k
theorem zif {L:List Int} {k:Nat} (h:k<=L.length):(splZ L k).length=L.length:=by
 unfold splZ
 rw [List.length_append,List.length_replicate,List.length_drop]
 omega
theorem zig {L:List Int} {k:Nat} {y:Int} (h:L[k]? =some y):(splZ L k)[k]? =some y:=by
 unfold splZ
 rw [List.getElem?_append_right (by rw [List.length_replicate]; exact Nat.le_refl _),List.length_replicate,Nat.sub_self,List.getElem?_drop,Nat.add_zero,h]
theorem zfH {L:List Int} {k:Nat} {y:Int} (h:L[k]? =some y):(splZ L k).set k (-7)=splZ L (k+1):=by
 obtain⟨hk,he⟩:=List.getElem?_eq_some_iff.1 h
 unfold splZ
 rw [List.set_append_right _ _ (by rw [List.length_replicate]; exact Nat.le_refl _),List.length_replicate,Nat.sub_self,List.drop_eq_getElem_cons hk,List.set_cons_zero,List.replicate_succ',List.append_assoc]
 rfl
theorem zdQ (L:List Int):splZ L L.length=List.replicate L.length (-7):=by
 unfold splZ
 rw [List.drop_length,List.append_nil]
theorem zsI {x:InD} (h:ziQ x):(∀m∈x.2.2.1,Fits m.2.length 8)/\Fits x.2.2.2.1.length 24:=⟨fun m hm=>⟨Nat.le_trans (h.2.1 m hm) (by decide),zhg (h.1.2.1.2 m hm)⟩,Nat.le_trans h.2.2 (by decide),zhg h.1.2.2.1⟩
theorem zeE (ad:Nat->Addr) (c:ChD) (hcf:zd9 c) (x:InD) (hx:ziQ x) (ev:List UInt8) (d n:Int):Con Tryz.prog (zbf ad zbq) 7 [.agg (zaH c x ev d n)] (B true):=by
 have he:=zrc ad
 have h7:(zbf ad zbq) 0=some (sentV (ad 7)):=rfl
 have fa:=zlD (zbf ad zbq) (ad 1) (ad 8) he (zjF ad)
 have fr:=zkW (zbf ad zbq) c x ev d n
 have fq:=zna (zbf ad zbq) (ad 7) h7 x
 have f7:Con Tryz.prog (zbf ad zbq) 29 [errV (-1) (sentV (ad 7)),I 7] (B true):=zf4 ad zbq 7 (by omega) (-1) []
 generalize sentV (ad 7)=E7 at*
 cases hr:zfJ c x with
 | true=>
   rw [hr] at fr
   unfold inE at fq
   unfold zaH at fr |-
   refine zaa Tryz.func7 rfl Tryz.call7 (by rw [Tryz.ntmps7]; simp) ?_
   rw [Tryz.ntmps7,Tryz.results7]
   repeat (first | refine st0 ?_ | refine cC0 fq ?_ | refine cC0 f7 ?_ | refine cC0 fr ?_ | refine cC0 fa ?_)
   exact aR0
 | false=>
 rw [hr] at fr
 unfold zfJ at hr
 rw [Bool.or_eq_false_iff,Bool.or_eq_false_iff,Bool.or_eq_false_iff,Bool.not_eq_false',decide_eq_false_iff_not,decide_eq_false_iff_not,decide_eq_false_iff_not] at hr
 obtain⟨⟨⟨hg,l1⟩,l2⟩,l3⟩:=hr
 have h:=zpB hg
 have hs:=zik (zsH hg)
 obtain⟨hF,hT⟩:=zsI hx
 have fm:=znq (zbf ad zbq) (ad 1) (ad 8) he (zjF ad) c hcf hg
 have hL:LiteI (rcI x):=⟨show x.1.length<=1000000 by omega,show x.2.1.length<=1000000 by omega,show x.2.2.1.length<=1000000 by omega,hT.2⟩
 have f1:=zjn (zbf ad zbq) c h (rcI x) hL hF
 have f2:=zhE (zbf ad zbq) (ad 1) (ad 8) he c h hs (rcI x) hL (fun t ht=>zhg (hx.1.2.2.2 t ht)) hF
 rw [zsG] at f1 f2
 have f3:=zhD (zbf ad zbq) x (by omega) (by omega) (by omega) hF hT
 have f4:=znr (zbf ad zbq) x (by omega) (by omega) (by omega) hF hT
 have f5:=zgm (zbf ad zbq) x.1 x.2.1 x hx.1 rfl rfl
 rw [beq_self_eq_true,beq_self_eq_true,Bool.and_self] at f5
 have f6:=zjD (zbf ad zbq) x x hx.1
 rw [zm3] at f6
 have f8:=zgm (zbf ad zbq) (List.replicate x.1.length (-7)) (List.replicate x.2.1.length (-7)) x hx.1 (by simp) (by simp)
 have f9:=zjD (zbf ad zbq) (List.replicate x.1.length (-7),List.replicate x.2.1.length (-7),x.2.2) x ⟨⟨by simpa using hx.1.1.1,by simpa using hx.1.1.2⟩,hx.1.2⟩
 rw [zqS] at f9
 generalize ((List.replicate x.1.length (-7)==x.1)&&(List.replicate x.2.1.length (-7)==x.2.1))=bs at*
 have g1: ∀k,k<x.1.length->(splZ x.1 k).length=x.1.length:=fun k hk=>zif (by omega)
 have hA:=l1
 have hV:=l3
 have eI: ∀k,k<=x.1.length->((splZ x.1 k).length:Int)=x.1.length:=fun k hk=>by rw [zif hk]
 have eV: ∀k,k<=x.2.1.length->((splZ x.2.1 k).length:Int)=x.2.1.length:=fun k hk=>by rw [zif hk]
 obtain⟨A,V,M,T,O⟩:=x
 unfold inE at*
 unfold chAV zaj at fm
 unfold chAV at f1
 unfold zaj at f2
 unfold zaH at fr |-
 simp only at*
 unfold zli at f2
 cases hb:zck c (rcI (A,V,M,T,O)) with
 | true=>
   rw [hb,if_pos rfl] at f2
   rw [hb] at f1
   have ft:=zkH (zbf ad zbq)
   refine zaa Tryz.func7 rfl Tryz.call7 (by rw [Tryz.ntmps7]; simp) ?_
   rw [Tryz.ntmps7,Tryz.results7]
   repeat (first | refine st0 ?_ | refine cC0 fq ?_ | refine cC0 f7 ?_ | refine cC0 fr ?_ | refine cC0 fm ?_ | refine cC0 f1 ?_)
   refine zaF [(8,9001),(11,9002)] rfl (f3) (by decide) (by decide) (by simp only [go_sem]<;>rfl) (by simp only [go_sem,and_self]<;>trivial) (by simp only [go_sem,and_self]<;>trivial) (by intro o; simp only [go_sem,behind,and_self]<;>trivial) (by intro o; simp only [go_sem]<;>rfl) (by simp only [go_sem,behind]; exact iR) (by simp only [go_sem,behind]; exact iR) ?_
   repeat refine st0 ?_
   refine zaF [(1003,9001),(1004,9002),(8,9003),(11,9004)] rfl (f4) (by decide) (by decide) (by simp only [go_sem]<;>rfl) (by simp only [go_sem,and_self]<;>trivial) (by simp only [go_sem,and_self]<;>trivial) (by intro o; simp only [go_sem,behind,and_self]<;>trivial) (by intro o; simp only [go_sem]<;>rfl) (by simp only [go_sem,behind]; exact iR) (by simp only [go_sem,behind]; exact iR) ?_
   repeat refine st0 ?_
   refine zac (D:=Nat) (fun j vs=>[(1, .loc 1 (vs 1) 0 0),(3, .ref 9 [tabCells c] 0 0),(4,I 0),(5, .loc 5 (vs 5) 0 0),(6, .loc 6 (vs 6) 0 0),(7,I j)]) (fun j vs=>[(1,⟨13,[[Sg c.name,I c.initial,varsAV c.vars,stsAV c.states,trsAV c.trans, .seq 1 (A.map intAV), .seq 1 (V.map intAV), .seq 2 (M.map mmAV), .seq 2 (T.map tmAV),B O,Sg ev,I d,I n]],50,false⟩),(5,⟨5,[[.row 9001 (vs 9001), .row 9002 (vs 9002), .seq 2 (M.map mmAV), .seq 2 (T.map tmAV),B O]],31,false⟩),(6,⟨5,[[.row 9003 (vs 9003), .row 9004 (vs 9004), .seq 2 (M.map mmAV), .seq 2 (T.map tmAV),B O]],31,false⟩),(9001,⟨1,(splZ A j).map intAV,3,true⟩),(9002,⟨1,V.map intAV,3,true⟩),(9003,⟨1,A.map intAV,3,true⟩),(9004,⟨1,V.map intAV,3,true⟩)]) (fun j _ esc=>j<=A.length/\esc 9001=false/\esc 9002=false) (fun j=>A.length-j) 0 ?_ ?_ ?_ ?_
   ·refine⟨Nat.zero_le _, ?_, ?_⟩<;>simp only [go_sem]
   ·(simp only [go_sem])
    try rfl
   ·(simp only [go_sem])
    try rfl
   rintro j ws esc ⟨hj,e0,e1⟩
   have q0:=eI j hj
   by_cases hlt:j<A.length
   ·obtain⟨y,hy⟩: ∃y,A[j]? =some y:=⟨A[j],List.getElem?_eq_getElem hlt⟩
    have q1:(j:Int)< ((splZ A j).length:Int):=by omega
    have q2:=zab hlt (by omega)
    have hat:=zig hy
    have hset:((splZ A j).map intAV).set j [I (-7)]=(splZ A (j+1)).map intAV:=by rw [<-zfH hy,List.map_set]
    have F:=ai q1<|ai q2<|ai e0<|ai e1<|ai hat<|hset
    repeat (first | refine oO rfl (by simp only [go_sem,intAV,F]; exact⟨rfl,rfl⟩) ?_ | refine gR ?_ | refine gO ?_ | refine oZ (zau ?_) | refine oZ ?_ | refine oS ?_ | refine gT ?_ | refine gD Tryz.mixed ?_ | refine oB ?_ | refine oK ?_ | (refine oX ?_; simp only [zam,zag, ↓reduceIte,Nat.reduceEqDiff,reduceCtorEq]) | refine oY (by simp only [go_sem,intAV,F]; exact iR) ?_ | refine oN (by simp only [go_sem,intAV,F]; exact iR) ?_)
    refine⟨j+1,⟨hlt,by simp only [go_sem,e0],by simp only [go_sem,e1]⟩, ?_, ?_,by omega⟩
    ·(simp only [go_sem,intAV,F])
    ·(simp only [go_sem,intAV,F])
   obtain rfl:j=A.length:=by omega
   have q1: ¬(A.length:Int)< ((splZ A A.length).length:Int):=by omega
   have q3:=zdQ A
   have F:=ai q1<|ai e0<|e1
   repeat refine st ?_
   refine zac (D:=Nat) (fun j vs=>[(1, .loc 1 (vs 1) 0 0),(3, .ref 9 [tabCells c] 0 0),(4,I 0),(5, .loc 5 (vs 5) 0 0),(6, .loc 6 (vs 6) 0 0),(8,I j)]) (fun j vs=>[(1,⟨13,[[Sg c.name,I c.initial,varsAV c.vars,stsAV c.states,trsAV c.trans, .seq 1 (A.map intAV), .seq 1 (V.map intAV), .seq 2 (M.map mmAV), .seq 2 (T.map tmAV),B O,Sg ev,I d,I n]],50,false⟩),(5,⟨5,[[.row 9001 (vs 9001), .row 9002 (vs 9002), .seq 2 (M.map mmAV), .seq 2 (T.map tmAV),B O]],31,false⟩),(6,⟨5,[[.row 9003 (vs 9003), .row 9004 (vs 9004), .seq 2 (M.map mmAV), .seq 2 (T.map tmAV),B O]],31,false⟩),(9001,⟨1,(splZ A A.length).map intAV,3,true⟩),(9002,⟨1,(splZ V j).map intAV,3,true⟩),(9003,⟨1,A.map intAV,3,true⟩),(9004,⟨1,V.map intAV,3,true⟩)]) (fun j _ esc=>j<=V.length/\esc 9002=false) (fun j=>V.length-j) 0 ?_ ?_ ?_ ?_
   ·exact⟨Nat.zero_le _,by simp only [go_sem,e1]⟩
   ·(simp only [go_sem,F])
    try rfl
   ·(simp only [go_sem,F])
    try rfl
   try clear e0 e1 q1 q0
   rintro j ws esc ⟨hj,e0⟩
   have q0:=eV j hj
   by_cases hlt:j<V.length
   ·obtain⟨y,hy⟩: ∃y,V[j]? =some y:=⟨V[j],List.getElem?_eq_getElem hlt⟩
    have q1:(j:Int)< ((splZ V j).length:Int):=by omega
    have q2:=zab hlt (by omega)
    have hat:=zig hy
    have hset:((splZ V j).map intAV).set j [I (-7)]=(splZ V (j+1)).map intAV:=by rw [<-zfH hy,List.map_set]
    have F:=ai q1<|ai q2<|ai e0<|ai hat<|hset
    repeat (first | refine oO rfl (by simp only [go_sem,intAV,F]; exact⟨rfl,rfl⟩) ?_ | refine gR ?_ | refine gO ?_ | refine oZ (zau ?_) | refine oZ ?_ | refine oS ?_ | refine gT ?_ | refine gD Tryz.mixed ?_ | refine oB ?_ | refine oK ?_ | (refine oX ?_; simp only [zam,zag, ↓reduceIte,Nat.reduceEqDiff,reduceCtorEq]) | refine oY (by simp only [go_sem,intAV,F]; exact iR) ?_ | refine oN (by simp only [go_sem,intAV,F]; exact iR) ?_)
    refine⟨j+1,⟨hlt,by simp only [go_sem,e0]⟩, ?_, ?_,by omega⟩
    ·(simp only [go_sem,intAV,F])
    ·(simp only [go_sem,intAV,F])
   obtain rfl:j=V.length:=by omega
   have q1: ¬(V.length:Int)< ((splZ V V.length).length:Int):=by omega
   rw [<-zdQ A, <-zdQ V] at f8 f9
   cases bs
   ·have F:=ai q1<|e0
    repeat (first | refine st ?_ | refine cC f2 ?_ | refine cC ft ?_ | refine cC f5 ?_ | refine cC f6 ?_ | refine cC f8 ?_ | refine cC f9 ?_ | refine cC fa ?_)
    exact aR
   ·have F:=ai q1<|e0
    repeat (first | refine st ?_ | refine cC f2 ?_ | refine cC ft ?_ | refine cC f5 ?_ | refine cC f6 ?_ | refine cC f8 ?_ | refine cC f9 ?_ | refine cC fa ?_)
    exact aR
 | false=>
   rw [hb,if_neg Bool.false_ne_true] at f2
   rw [hb] at f1
   have ft:Con Tryz.prog (zbf ad zbq) 29 [errV (-1) (sentV (ad 1)),I 1] (B true):=zf4 ad zbq 1 (by omega) (-1) []
   generalize sentV (ad 1)=E1 at*
   refine zaa Tryz.func7 rfl Tryz.call7 (by rw [Tryz.ntmps7]; simp) ?_
   rw [Tryz.ntmps7,Tryz.results7]
   repeat (first | refine st0 ?_ | refine cC0 fq ?_ | refine cC0 f7 ?_ | refine cC0 fr ?_ | refine cC0 fm ?_ | refine cC0 f1 ?_)
   refine zaF [(8,9001),(11,9002)] rfl (f3) (by decide) (by decide) (by simp only [go_sem]<;>rfl) (by simp only [go_sem,and_self]<;>trivial) (by simp only [go_sem,and_self]<;>trivial) (by intro o; simp only [go_sem,behind,and_self]<;>trivial) (by intro o; simp only [go_sem]<;>rfl) (by simp only [go_sem,behind]; exact iR) (by simp only [go_sem,behind]; exact iR) ?_
   repeat refine st0 ?_
   refine zaF [(1003,9001),(1004,9002),(8,9003),(11,9004)] rfl (f4) (by decide) (by decide) (by simp only [go_sem]<;>rfl) (by simp only [go_sem,and_self]<;>trivial) (by simp only [go_sem,and_self]<;>trivial) (by intro o; simp only [go_sem,behind,and_self]<;>trivial) (by intro o; simp only [go_sem]<;>rfl) (by simp only [go_sem,behind]; exact iR) (by simp only [go_sem,behind]; exact iR) ?_
   repeat refine st0 ?_
   refine zac (D:=Nat) (fun j vs=>[(1, .loc 1 (vs 1) 0 0),(3, .ref 9 [tabCells c] 0 0),(4,I 1),(5, .loc 5 (vs 5) 0 0),(6, .loc 6 (vs 6) 0 0),(7,I j)]) (fun j vs=>[(1,⟨13,[[Sg c.name,I c.initial,varsAV c.vars,stsAV c.states,trsAV c.trans, .seq 1 (A.map intAV), .seq 1 (V.map intAV), .seq 2 (M.map mmAV), .seq 2 (T.map tmAV),B O,Sg ev,I d,I n]],50,false⟩),(5,⟨5,[[.row 9001 (vs 9001), .row 9002 (vs 9002), .seq 2 (M.map mmAV), .seq 2 (T.map tmAV),B O]],31,false⟩),(6,⟨5,[[.row 9003 (vs 9003), .row 9004 (vs 9004), .seq 2 (M.map mmAV), .seq 2 (T.map tmAV),B O]],31,false⟩),(9001,⟨1,(splZ A j).map intAV,3,true⟩),(9002,⟨1,V.map intAV,3,true⟩),(9003,⟨1,A.map intAV,3,true⟩),(9004,⟨1,V.map intAV,3,true⟩)]) (fun j _ esc=>j<=A.length/\esc 9001=false/\esc 9002=false) (fun j=>A.length-j) 0 ?_ ?_ ?_ ?_
   ·refine⟨Nat.zero_le _, ?_, ?_⟩<;>simp only [go_sem]
   ·(simp only [go_sem])
    try rfl
   ·(simp only [go_sem])
    try rfl
   rintro j ws esc ⟨hj,e0,e1⟩
   have q0:=eI j hj
   by_cases hlt:j<A.length
   ·obtain⟨y,hy⟩: ∃y,A[j]? =some y:=⟨A[j],List.getElem?_eq_getElem hlt⟩
    have q1:(j:Int)< ((splZ A j).length:Int):=by omega
    have q2:=zab hlt (by omega)
    have hat:=zig hy
    have hset:((splZ A j).map intAV).set j [I (-7)]=(splZ A (j+1)).map intAV:=by rw [<-zfH hy,List.map_set]
    have F:=ai q1<|ai q2<|ai e0<|ai e1<|ai hat<|hset
    repeat (first | refine oO rfl (by simp only [go_sem,intAV,F]; exact⟨rfl,rfl⟩) ?_ | refine gR ?_ | refine gO ?_ | refine oZ (zau ?_) | refine oZ ?_ | refine oS ?_ | refine gT ?_ | refine gD Tryz.mixed ?_ | refine oB ?_ | refine oK ?_ | (refine oX ?_; simp only [zam,zag, ↓reduceIte,Nat.reduceEqDiff,reduceCtorEq]) | refine oY (by simp only [go_sem,intAV,F]; exact iR) ?_ | refine oN (by simp only [go_sem,intAV,F]; exact iR) ?_)
    refine⟨j+1,⟨hlt,by simp only [go_sem,e0],by simp only [go_sem,e1]⟩, ?_, ?_,by omega⟩
    ·(simp only [go_sem,intAV,F])
    ·(simp only [go_sem,intAV,F])
   obtain rfl:j=A.length:=by omega
   have q1: ¬(A.length:Int)< ((splZ A A.length).length:Int):=by omega
   have q3:=zdQ A
   have F:=ai q1<|ai e0<|e1
   repeat refine st ?_
   refine zac (D:=Nat) (fun j vs=>[(1, .loc 1 (vs 1) 0 0),(3, .ref 9 [tabCells c] 0 0),(4,I 1),(5, .loc 5 (vs 5) 0 0),(6, .loc 6 (vs 6) 0 0),(8,I j)]) (fun j vs=>[(1,⟨13,[[Sg c.name,I c.initial,varsAV c.vars,stsAV c.states,trsAV c.trans, .seq 1 (A.map intAV), .seq 1 (V.map intAV), .seq 2 (M.map mmAV), .seq 2 (T.map tmAV),B O,Sg ev,I d,I n]],50,false⟩),(5,⟨5,[[.row 9001 (vs 9001), .row 9002 (vs 9002), .seq 2 (M.map mmAV), .seq 2 (T.map tmAV),B O]],31,false⟩),(6,⟨5,[[.row 9003 (vs 9003), .row 9004 (vs 9004), .seq 2 (M.map mmAV), .seq 2 (T.map tmAV),B O]],31,false⟩),(9001,⟨1,(splZ A A.length).map intAV,3,true⟩),(9002,⟨1,(splZ V j).map intAV,3,true⟩),(9003,⟨1,A.map intAV,3,true⟩),(9004,⟨1,V.map intAV,3,true⟩)]) (fun j _ esc=>j<=V.length/\esc 9002=false) (fun j=>V.length-j) 0 ?_ ?_ ?_ ?_
   ·exact⟨Nat.zero_le _,by simp only [go_sem,e1]⟩
   ·(simp only [go_sem,F])
    try rfl
   ·(simp only [go_sem,F])
    try rfl
   try clear e0 e1 q1 q0
   rintro j ws esc ⟨hj,e0⟩
   have q0:=eV j hj
   by_cases hlt:j<V.length
   ·obtain⟨y,hy⟩: ∃y,V[j]? =some y:=⟨V[j],List.getElem?_eq_getElem hlt⟩
    have q1:(j:Int)< ((splZ V j).length:Int):=by omega
    have q2:=zab hlt (by omega)
    have hat:=zig hy
    have hset:((splZ V j).map intAV).set j [I (-7)]=(splZ V (j+1)).map intAV:=by rw [<-zfH hy,List.map_set]
    have F:=ai q1<|ai q2<|ai e0<|ai hat<|hset
    repeat (first | refine oO rfl (by simp only [go_sem,intAV,F]; exact⟨rfl,rfl⟩) ?_ | refine gR ?_ | refine gO ?_ | refine oZ (zau ?_) | refine oZ ?_ | refine oS ?_ | refine gT ?_ | refine gD Tryz.mixed ?_ | refine oB ?_ | refine oK ?_ | (refine oX ?_; simp only [zam,zag, ↓reduceIte,Nat.reduceEqDiff,reduceCtorEq]) | refine oY (by simp only [go_sem,intAV,F]; exact iR) ?_ | refine oN (by simp only [go_sem,intAV,F]; exact iR) ?_)
    refine⟨j+1,⟨hlt,by simp only [go_sem,e0]⟩, ?_, ?_,by omega⟩
    ·(simp only [go_sem,intAV,F])
    ·(simp only [go_sem,intAV,F])
   obtain rfl:j=V.length:=by omega
   have q1: ¬(V.length:Int)< ((splZ V V.length).length:Int):=by omega
   rw [<-zdQ A, <-zdQ V] at f8 f9
   cases bs
   ·have F:=ai q1<|e0
    repeat (first | refine st ?_ | refine cC f2 ?_ | refine cC ft ?_ | refine cC f5 ?_ | refine cC f6 ?_ | refine cC f8 ?_ | refine cC f9 ?_ | refine cC fa ?_)
    exact aR
   ·have F:=ai q1<|e0
    repeat (first | refine st ?_ | refine cC f2 ?_ | refine cC ft ?_ | refine cC f5 ?_ | refine cC f6 ?_ | refine cC f8 ?_ | refine cC f9 ?_ | refine cC fa ?_)
    exact aR
end

end Go.Proofs.YtnbjaghjdeicmaaGreatDoor