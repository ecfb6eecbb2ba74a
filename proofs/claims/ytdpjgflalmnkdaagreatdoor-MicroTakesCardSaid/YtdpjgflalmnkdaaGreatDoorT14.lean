/- Walking without memory: states that stand for others; rows in lists. No program is named here. -/
import Derived.Test.YtdpjgflalmnkdaaGreatDoorT13
set_option maxRecDepth 100000
set_option maxHeartbeats 8000000
set_option linter.unusedSimpArgs false
namespace Go.Proofs.YtdpjgflalmnkdaaGreatDoor
open Go.Proofs.Tryz
section
open Go.RowKit
def ah (c:ChD) (i:Int):Bool:=match at_ c i with
 |some s=>s.kind==1
 |none=>false
def jr (c:ChD) (i:Int):Int:=match at_ c i with
 |some s=>s.initial
 |none=> -1
def aboveB (c:ChD) (k i:Int):Bool:=(upL c i).contains k
def qR (c:ChD) (tg i:Int):Bool:=decide (i<0)||(ah c i&&aboveB c i tg)
def domE (c:ChD) (src tg:Int):Int:=((upL c src).find? (qR c tg)).getD (-1)
theorem ge {α:Type} {p:α->Bool} {l:List α} {j:Nat} {x:α} (h:l[j]? =some x):(l.drop j).find? p=if p x=true then some x else(l.drop (j+1)).find? p:=by
 obtain⟨hj,rfl⟩:=K0.1 h;rw[MP hj,List.find?_cons];cases p l[j]<;>rfl
abbrev kidZ (c:ChD) (i:Int):List Int:=zL (kidsL c i true)
theorem bK {c:ChD} (h:Right c) {i k:Int} (hk:k∈kidZ c i):inZ c k=true/\aO c k=i/\i<k:=by
 obtain⟨j,hj,rfl⟩:=Kb.1 hk;obtain⟨s,hs,hp,_⟩:=xe hj;refine⟨aV.2 (K0.1 hs).1,by rw[dw hs,hp],?_⟩;have:=h.par j s hs;omega
theorem rV (c:ChD) (i:Int):(kidZ c i).Nodup:=by
 unfold kidZ zL;exact List.Pairwise.map _ (fun a b hne he=>hne (by omega)) (bO c i true)
/-! What comes with a state -/
def oP (c:ChD) (l:List Int) (i:Int):List Int:=
 if ah c i=true then(if (kidZ c i).any (fun k=>l.contains k)=true then [] else if 0<=jr c i then [jr c i] else []) else kidZ c i
def iy (c:ChD) (l:List Int) (i:Int):List Int:=(oP c l i).filter fun k=> !l.contains k
def i6 (c:ChD):Nat->List Int->List Int->List Int
 |0,l,_=>l
 |_+1,l,[]=>l
 |f+1,l,i::r=>i6 c f (l++iy c l i) (r++iy c l i)
def missL (c:ChD) (l:List Int):Nat:=((List.range c.states.length).filter fun k:Nat=> !l.contains (k:Int)).length
def growL (c:ChD) (l:List Int):List Int:=i6 c (missL c l+l.length) l l
inductive Gr (c:ChD) (l:List Int):Int->Prop
 |base {x:Int} (h:x∈l):Gr c l x
 |ini {p:Int} (h:Gr c l p) (hp:ah c p=true) (hn: ∀k∈kidZ c p,k∉l) (h0:0<=jr c p):Gr c l (jr c p)
 |par {p k:Int} (h:Gr c l p) (hp:ah c p=false) (hk:k∈kidZ c p):Gr c l k
theorem iK {c:ChD} (h:Full c) {p:Int} (hp:ah c p=true) (h0:0<=jr c p):jr c p∈kidZ c p:=by
 unfold ah at hp;unfold jr at h0 |-;cases ha:at_ c p with
 |none=>rw[ha]at hp;cases hp
 | some s=>
   rw[ha]at hp h0;simp only at hp h0 |-
   have hz:0<=p:=by
    unfold at_ at ha;split at ha
    ·assumption
    ·cases ha
   obtain⟨k,rfl⟩: ∃k:Nat,p=k:=⟨p.toNat,by omega⟩;rw[bI]at ha;have hk:s.kind=1:=by simpa using hp
   rcases h.cases ha with⟨_,h2|⟨j,hj,e⟩⟩|⟨e,_⟩|⟨e,_⟩|⟨e|e,_⟩
   ·omega
   ·rw[e];exact Kb.2 ⟨j,hj,rfl⟩
   all_goals omega
theorem zX {c:ChD} (h:Full c) {l:List Int} {i k:Int} (hk:k∈oP c l i):k∈kidZ c i:=by
 unfold oP at hk;split at hk
 ·rename_i hp;split at hk
  ·cases hk
  ·split at hk
   ·rename_i h0;rw[Kl.1 hk];exact iK h hp h0
   ·cases hk
 ·exact hk
theorem eh {c:ChD} (h:Full c) {l:List Int} {i k:Int} (hk:k∈iy c l i):k∉l/\inZ c k=true/\aO c k=i:=by
 obtain⟨h1,h2⟩:=Ke.1 hk;obtain⟨q1,q2,_⟩:=bK h.toRight (zX h h1);exact⟨by simpa using h2,q1,q2⟩
theorem rK (c:ChD) (l:List Int) (i:Int):(oP c l i).Nodup:=by
 unfold oP;split
 ·split
  ·exact PO
  ·split
   ·simp
   ·exact PO
 ·exact rV c i
theorem fO (c:ChD) (l:List Int) (i:Int):(iy c l i).Nodup:=(rK c l i).sublist Lp
theorem ri {α:Type} (p q:α->Bool): ∀l:List α,(l.filter fun x=>p x&& !q x).length+(l.filter fun x=>p x&&q x).length=(l.filter p).length
 |[]=>rfl
 | x::l=>by
   have:=ri p q l;simp only[MZ];cases p x<;>cases q x<;>simp<;>omega
theorem kZ {c:ChD} {l a:List Int} (hn:a.Nodup) (ha: ∀k∈a,k∉l/\inZ c k=true):missL c (l++a)+a.length<=missL c l:=by
 have e:=ri (fun k:Nat=> !l.contains (k:Int)) (fun k:Nat=>a.contains (k:Int)) (List.range c.states.length)
 have e1:missL c (l++a)=((List.range c.states.length).filter fun k:Nat=> !l.contains (k:Int)&& !a.contains (k:Int)).length:=by
  unfold missL
  congr 1
  apply MG;intro k _;simp[List.contains_eq_mem]
 have e2:a.length<=((List.range c.states.length).filter fun k:Nat=> !l.contains (k:Int)&&a.contains (k:Int)).length:=by
  have:(a.map Int.toNat).Nodup:=by
   refine List.Pairwise.map (R:=fun x y=>x≠y/\0<=x/\0<=y) _ (fun x y hxy=>by omega) ?_;refine OC ?_ hn;intro x y hx hy hne;exact⟨hne,(aH.1 (ha x hx).2).1,(aH.1 (ha y hy).2).1⟩
  have:=this.length_le_of_subset (l₂:=(List.range c.states.length).filter fun k:Nat=> !l.contains (k:Int)&&a.contains (k:Int)) fun x hx=>by
   obtain⟨y,hy,rfl⟩:=Kb.1 hx;obtain⟨y1,y2⟩:=ha y hy;have y3:=aH.1 y2;rw[Ke,Kw];have e:((y.toNat:Nat):Int)=y:=by omega
   refine⟨by omega,?_⟩;rw[e];simp[y1,hy]
  simpa using this
 unfold missL at e1 |-;omega
structure Grown (c:ChD) (l0 l t:List Int):Prop where
 sub: ∀x∈l0,x∈l
 todo: ∀x∈t,x∈l
 nd:t.Nodup
 gr: ∀x∈l,Gr c l0 x
 par: ∀x∈l,x∉l0->aO c x∈l/\aO c x∉t
 done: ∀p∈l,p∉t->(ah c p=true->(∀k∈kidZ c p,k∉l0)->0<=jr c p->jr c p∈l)/\(ah c p=false-> ∀k∈kidZ c p,k∈l)
theorem Grown.step {c:ChD} (h:Full c) {l0 l r:List Int} {i:Int} (g:Grown c l0 l (i::r)):Grown c l0 (l++iy c l i) (r++iy c l i):=by
 have hi:=g.todo i (by simp);obtain⟨n1,n2⟩:=Ma.1 g.nd
 have old: ∀k∈kidZ c i,k∈l->k∈l0:=fun k hk hl=>Me fun hn=>by
  have:=(g.par k hl hn).2;rw[(bK h.toRight hk).2.1]at this;exact this (by simp)
 have hgr: ∀x∈iy c l i,Gr c l0 x:=fun x hx=>by
  obtain⟨h1,h2⟩:=Ke.1 hx;have h1':=h1;unfold oP at h1;split at h1
  ·rename_i hp;split at h1
   ·cases h1
   ·rename_i hany;split at h1
    ·rename_i h0;rw[Kl.1 h1];refine .ini (g.gr i hi) hp (fun k hk hl=>hany ?_) h0;rw[Lj];exact⟨k,hk,by simpa using g.sub k hl⟩
    ·cases h1
  ·rename_i hp;exact .par (g.gr i hi) (by simpa using hp) h1
 refine⟨fun x hx=>LW _ (g.sub x hx),fun x hx=> ?_,?_,fun x hx=> ?_,fun x hx hn=> ?_,fun p hp hpt=> ?_⟩
 ·rcases Kx.1 hx with hx|hx
  ·exact LW _ (g.todo x (Ly _ hx))
  ·exact M6 _ hx
 ·rw[MW];refine⟨n2,fO c l i,fun x hx y hy e=> ?_⟩;subst e;exact(eh h hy).1 (g.todo x (Ly _ hx))
 ·rcases Kx.1 hx with hx|hx
  ·exact g.gr x hx
  ·exact hgr x hx
 ·rcases Kx.1 hx with hx|hx
  ·obtain⟨q1,q2⟩:=g.par x hx hn;refine⟨LW _ q1,fun hh=> ?_⟩;rcases Kx.1 hh with hh|hh
   ·exact q2 (Ly _ hh)
   ·exact(eh h hh).1 q1
  ·obtain⟨q1,_,q3⟩:=eh h hx;rw[q3];refine⟨LW _ hi,fun hh=> ?_⟩;rcases Kx.1 hh with hh|hh
   ·exact n1 hh
   ·exact(eh h hh).1 hi
 ·have hpl:p∈l:=by
   rcases Kx.1 hp with hp|hp
   ·exact hp
   ·exact absurd (M6 _ hp) hpt
  by_cases e:p=i
  ·subst e
   have key: ∀k∈oP c l p,k∈l++iy c l p:=fun k hk=>by
    by_cases hl:k∈l
    ·exact LW _ hl
    ·exact M6 _ (Ke.2 ⟨hk,by simpa using hl⟩)
   refine⟨fun hpp hno h0=>key _ ?_,fun hpp k hk=>key k ?_⟩
   ·unfold oP;rw[K5 hpp,K2 ?_,K5 h0]
    ·simp
    ·rw[Lj];rintro⟨k,hk,hl⟩;exact hno k hk (old k hk (by simpa using hl))
   ·unfold oP;rw[K2 (by rw[hpp];simp)];exact hk
  ·have hpt':p∉i::r:=fun hh=>by
    rcases Kr.1 hh with rfl|hh
    ·exact e rfl
    ·exact hpt (LW _ hh)
   obtain⟨q1,q2⟩:=g.done p hpl hpt';exact⟨fun a b d=>LW _ (q1 a b d),fun a k hk=>LW _ (q2 a k hk)⟩
theorem Grown.all {c:ChD} {l0 l:List Int} (g:Grown c l0 l []) {x:Int} :x∈l↔Gr c l0 x:=by
 refine⟨g.gr x,fun h=> ?_⟩
 induction h with
 |base h=>exact g.sub _ h
 |ini _ hp hn h0 ih=>exact(g.done _ ih (by simp)).1 hp hn h0
 |par _ hp hk ih=>exact(g.done _ ih (by simp)).2 hp _ hk
theorem Grown.grow {c:ChD} (h:Full c) {l0:List Int} : ∀(f:Nat) (l t:List Int),Grown c l0 l t->missL c l+t.length<=f->Grown c l0 (i6 c f l t) []
 | 0,l,t,g,hf=>by
   have:t=[]:=LS (by omega);subst this;exact g
 |f+1,l,[],g,hf=>g
 | f+1,l,i::r,g,hf=>by
   unfold i6;refine Grown.grow h f _ _ (g.step h) ?_;have:=kZ (c:=c) (l:=l) (fO c l i) fun k hk=>⟨(eh h hk).1,(eh h hk).2.1⟩;simp only[K8,Ks]at hf |-;omega
theorem vL {c:ChD} (h:Full c) {l0:List Int} : ∀ {f g:Nat} {l t:List Int},Grown c l0 l t->missL c l+t.length<=f->missL c l+t.length<=g->i6 c f l t=i6 c g l t
 |0,0,_,_,_,_,_=>rfl
 | 0,g+1,l,t,_,hf,_=>by
   have:t=[]:=LS (by omega);subst this;rfl
 | f+1,0,l,t,_,_,hg=>by
   have:t=[]:=LS (by omega);subst this;rfl
 |f+1,g+1,l,[],_,_,_=>rfl
 | f+1,g+1,l,i::r,gr,hf,hg=>by
   have:=kZ (c:=c) (l:=l) (fO c l i) fun k hk=>⟨(eh h hk).1,(eh h hk).2.1⟩;simp only[Ks]at hf hg;unfold i6;exact vL h (gr.step h) (by rw[K8];omega) (by rw[K8];omega)
theorem pW {c:ChD} {l:List Int} (hn:l.Nodup):Grown c l l l:=⟨fun _ h=>h,fun _ h=>h,hn,fun _ h=> .base h,fun _ h hh=>absurd h hh,fun _ h hh=>absurd h hh⟩
theorem eS {c:ChD} (h:Full c) {l:List Int} (hn:l.Nodup) {x:Int} :x∈growL c l↔Gr c l x:=((pW hn).grow h _ _ _ (Kc _)).all
theorem Gr.real {c:ChD} (h:Full c) {l:List Int} {x:Int} (g:Gr c l x):x∈l\/(x∈kidZ c (aO c x)/\Gr c l (aO c x)/\(ah c (aO c x)=true->x=jr c (aO c x)/\ ∀k∈kidZ c (aO c x),k∉l)):=by
 cases g with
 |base h=>exact .inl h
 | ini g hp hn h0=>
   rename_i p;have hk:=iK h hp h0;have e:=(bK h.toRight hk).2.1;rw[e];exact .inr ⟨hk,g,fun _=>⟨rfl,hn⟩⟩
 | par g hp hk=>
   have e:=(bK h.toRight hk).2.1;rw[e];exact .inr ⟨hk,g,fun hh=>by rw[hp]at hh;cases hh⟩
theorem Gr.in {c:ChD} (h:Full c) {l:List Int} (hl: ∀x∈l,inZ c x=true) {x:Int} (g:Gr c l x):inZ c x=true:=by
 rcases g.real h with hx|⟨hx,_⟩
 ·exact hl x hx
 ·exact(bK h.toRight hx).1
theorem Gr.congr {c:ChD} {l l':List Int} (h: ∀x,x∈l↔x∈l') {x:Int} (g:Gr c l x):Gr c l' x:=by
 induction g with
 |base hx=>exact .base ((h _).1 hx)
 |ini _ hp hn h0 ih=>exact .ini ih hp (fun k hk hh=>hn k hk ((h k).2 hh)) h0
 |par _ hp hk ih=>exact .par ih hp hk
theorem Ah {c:ChD} {l l':List Int} (h: ∀x,x∈l↔x∈l'):sortL c l=sortL c l':=by
 have e:l.all (inZ c)=l'.all (inZ c):=by
  rw[LC,K7,K7];exact⟨fun a x hx=>a x ((h x).2 hx),fun a x hx=>a x ((h x).1 hx)⟩
 unfold sortL;rw[e];split
 ·apply MG;intro k _;rw[LC,K6,K6];exact h k
 ·rfl
/-! As the document says -/
def jR (c:ChD) (l:List Int) (i:Nat):Option Int:=match c.states[i]? with
 |some s=>if l.contains (i:Int)=true then
  (if s.kind=1/\kidsL c i true≠[]/\manyI l (kidsL c i true)=0 then some s.initial
   else if s.kind=2 then(kidZ c i).find? (fun k=> !l.contains k) else none)
   else none
 |none=>none
def eO (c:ChD) (l:List Int) (j:Nat):Option Int:=((List.range c.states.length).drop j).findSome? (jR c l)
def lackI (c:ChD) (l:List Int):Int:=(eO c l 0).getD (-1)
def l9 (c:ChD):Nat->List Int->List Int
 |0,l=>l
 |f+1,l=>if lackI c l<0 then l else l9 c f (l++[lackI c l])
theorem gd {l:List Int} {ks:List Nat} :manyI l ks=0↔ ∀k∈zL ks,k∉l:=by
 unfold manyI;rw[Lz,Mu];constructor
 ·intro h k hk;obtain⟨j,hj,rfl⟩:=Kb.1 hk;simpa using h j hj
 ·intro h k hk;simpa using h k (Kb.2 ⟨k,hk,rfl⟩)
theorem FD {c:ChD} (h:Full c) {l0 l:List Int} (hl: ∀x∈l,Gr c l0 x) (hs: ∀x∈l0,x∈l) {x:Int} (hx:eO c l 0=some x):Gr c l0 x/\x∉l/\inZ c x=true:=by
 unfold eO at hx;rw[List.drop_zero]at hx;obtain⟨i,hi,hx⟩:=List.exists_of_findSome?_eq_some hx;unfold jR at hx;have hi:=Kw.1 hi;rw[KZ hi]at hx;have hst:at_ c (i:Int)=some c.states[i]:=by rw[bI];exact KZ hi
 simp only at hx;split at hx
 ·rename_i hin;have hg:=hl _ (K6.1 hin);split at hx
  ·rename_i hc;obtain⟨k1,k2,k3⟩:=hc;cases hx;have hp:ah c (i:Int)=true:=by unfold ah;rw[hst];simp[k1]
   have he:jr c (i:Int)=c.states[i].initial:=by unfold jr;rw[hst]
   have h0:0<=jr c (i:Int):=by
    rw[he];rcases h.cases (KZ hi) with⟨_,⟨e,_⟩|⟨j,_,e⟩⟩|⟨e,_⟩|⟨e,_⟩|⟨e|e,_⟩
    ·exact absurd e k2
    all_goals omega
   have hno:=gd.1 k3;have hk:=iK h hp h0;rw[<-he];exact⟨.ini hg hp (fun k hk hh=>hno k hk (hs k hh)) h0,hno _ hk,(bK h.toRight hk).1⟩
  ·split at hx
   ·rename_i k2;have hk:=MQ hx;have hn:=N8 hx;have hp:ah c (i:Int)=false:=by unfold ah;rw[hst];simp[k2]
    exact⟨.par hg hp hk,by simpa using hn,(bK h.toRight hk).1⟩
   ·cases hx
 ·cases hx
theorem FE {c:ChD} (h:Full c) {l0 l:List Int} (hl: ∀x∈l,Gr c l0 x) (hs: ∀x∈l0,x∈l) (h0: ∀x∈l0,inZ c x=true) (hx:eO c l 0=none) {x:Int} :x∈l↔Gr c l0 x:=by
 refine⟨hl x,fun g=> ?_⟩
 have hno: ∀i,i<c.states.length->jR c l i=none:=fun i hi=>by
  unfold eO at hx;rw[List.drop_zero,List.findSome?_eq_none_iff]at hx;exact hx i (Kw.2 hi)
 induction g with
 |base h=>exact hs _ h
 | ini g hp hn hi ih=>
   rename_i p;obtain⟨k,s,rfl,hsk,ha⟩:=cF (g.in h h0);have:=hno k (K0.1 hsk).1;unfold jR at this;rw[hsk]at this;simp only at this;rw[K5 (K6.2 ih)]at this;have hk1:s.kind=1:=by unfold ah at hp;rw[ha]at hp;simpa using hp
   have hkid:=iK h hp hi;split at this
   ·cases this
   ·rename_i hc;have hne:kidsL c k true≠[]:=fun e=>by rw[kidZ,e]at hkid;simp at hkid
    have hm:manyI l (kidsL c k true)≠0:=fun e=>hc ⟨hk1,hne,e⟩;rw[Ne,gd]at hm;obtain⟨j,hj⟩:=Classical.not_forall.1 hm;obtain⟨hj1,hj2⟩:=Classical.not_imp.1 hj;have hj2:=Nf.1 hj2;rcases (hl j hj2).real h with q|⟨_,_,q⟩
    ·exact absurd q (hn j hj1)
    ·rw[(bK h.toRight hj1).2.1]at q;rw[<-(q hp).1];exact hj2
 | par g hp hk ih=>
   rename_i p x;obtain⟨k,s,rfl,hsk,ha⟩:=cF (g.in h h0);have:=hno k (K0.1 hsk).1;unfold jR at this;rw[hsk]at this;simp only at this;rw[K5 (K6.2 ih)]at this;have hk1:s.kind≠1:=by unfold ah at hp;rw[ha]at hp;simpa using hp
   have hkr:kidsL c k true≠[]:=fun e=>by rw[kidZ,e]at hk;simp at hk
   have hk2:s.kind=2:=by
    rcases h.cases hsk with⟨e,_⟩|⟨e,_⟩|⟨_,e,_⟩|⟨_,e,_⟩
    ·exact absurd e hk1
    ·exact e
    ·exact absurd (lS e) hkr
    ·exact absurd (lS e) hkr
   rw[K2 (fun e=>hk1 e.1),K5 hk2,NM]at this;simpa using this x hk
theorem vM {c:ChD} (h:Full c) {l0:List Int} (h0: ∀x∈l0,inZ c x=true): ∀(f:Nat) (l:List Int),(∀x∈l,Gr c l0 x)->(∀x∈l0,x∈l)->missL c l<f-> ∀ {x:Int},x∈l9 c f l↔Gr c l0 x
 |0,l,hl,hs,hf=>by omega
 | f+1,l,hl,hs,hf=>by
   unfold l9 lackI;cases hx:eO c l 0 with
   | none=>
     simp only[M5];rw[K5 (by omega)];exact FE h hl hs h0 hx
   | some y=>
     obtain⟨g,hn,hz⟩:=FD h hl hs hx;simp only[Lb];rw[K2 (by have:=aH.1 hz;omega)];refine vM h h0 f _ (fun z hz=> ?_) (fun z hz=>LW _ (hs z hz)) ?_
     ·rcases Kx.1 hz with hz|hz
      ·exact hl z hz
      ·rw[Kl.1 hz];exact g
     ·have:=kZ (c:=c) (l:=l) (a:=[y]) (by simp) fun k hk=>by rw[Kl.1 hk];exact⟨hn,hz⟩
      simp only[LI]at this;omega
theorem Cv (c:ChD) (l:List Int):missL c l<=c.states.length:=by
 unfold missL;exact Km (Kq ..) (by simp)
def growRL (c:ChD) (l:List Int):List Int:=l9 c (c.states.length+1) l
theorem r7 {c:ChD} (h:Full c) {l:List Int} (h0: ∀x∈l,inZ c x=true) {x:Int} :x∈growRL c l↔Gr c l x:=vM h h0 _ l (fun _ hx=> .base hx) (fun _ hx=>hx) (by have:=Cv c l;omega)
/-! The ways up of some states -/
def addU (o:List Int) (i:Int):List Int:=if o.contains i=true then o else o++[i]
def upTo (c:ChD) (d:Int) (o U:List Int) (m:Nat):List Int:=(U.take m).foldl (fun o k=>if 0<=k/\aboveB c d k=true then addU o k else o) o
def upsTo (c:ChD) (d:Int) (l:List Int) (j:Nat):List Int:=(l.take j).foldl (fun o i=>upTo c d (addU o i) (upL c i) (upL c i).length) []
def upsL (c:ChD) (l:List Int) (d:Int):List Int:=upsTo c d l l.length
theorem bu {α β:Type} (f:β->α->β) (b:β) {l:List α} {j:Nat} {x:α} (h:l[j]? =some x):(l.take (j+1)).foldl f b=f ((l.take j).foldl f b) x:=by
 rw[Ky,h,Oo];rfl
theorem tY {o:List Int} {i x:Int} :x∈addU o i↔x∈o\/x=i:=by
 unfold addU;split
 ·rename_i h;have h:=K6.1 h;exact⟨.inl,fun hh=>hh.elim id fun e=>e ▸ h⟩
 ·rw[Kx,Kl]
theorem mX {o:List Int} (h:o.Nodup) (i:Int):(addU o i).Nodup:=by
 unfold addU;split
 ·exact h
 ·rename_i hh;rw[MW];refine⟨h,by simp,fun x hx y hy e=> ?_⟩;rw[Kl.1 hy]at e;subst e;exact hh (K6.2 hx)
theorem wh {c:ChD} {d:Int} {U:List Int} : ∀(m:Nat) {o:List Int},m<=U.length->o.Nodup->(upTo c d o U m).Nodup/\ ∀x,x∈upTo c d o U m↔x∈o\/(x∈U.take m/\0<=x/\aboveB c d x=true)
 |0,o,_,hn=>⟨hn,fun x=>by simp[upTo]⟩
 | m+1,o,hm,hn=>by
   obtain⟨k,hk⟩: ∃k,U[m]? =some k:=⟨U[m],KZ (by omega)⟩;obtain⟨q1,q2⟩:=wh (c:=c) (d:=d) (U:=U) m (o:=o) (by omega) hn;have e:upTo c d o U (m+1)=if 0<=k/\aboveB c d k=true then addU (upTo c d o U m) k else upTo c d o U m:=bu _ _ hk
   have e2: ∀x,x∈U.take (m+1)↔x∈U.take m\/x=k:=fun x=>by rw[Ky,hk];simp
   rw[e];split
   ·rename_i hc;refine⟨mX q1 k,fun x=> ?_⟩;rw[tY,q2,e2];constructor
    ·rintro((a|⟨a,b⟩)|rfl)
     ·exact .inl a
     ·exact .inr ⟨.inl a,b⟩
     ·exact .inr ⟨.inr rfl,hc⟩
    ·rintro(a|⟨a|rfl,b⟩)
     ·exact .inl (.inl a)
     ·exact .inl (.inr ⟨a,b⟩)
     ·exact .inr rfl
   ·rename_i hc;refine⟨q1,fun x=> ?_⟩;rw[q2,e2];constructor
    ·rintro(a|⟨a,b⟩)
     ·exact .inl a
     ·exact .inr ⟨.inl a,b⟩
    ·rintro(a|⟨a|rfl,b⟩)
     ·exact .inl a
     ·exact .inr ⟨a,b⟩
     ·exact absurd b hc
theorem sY {c:ChD} {d:Int} {l:List Int} : ∀(j:Nat),j<=l.length->(upsTo c d l j).Nodup/\ ∀x,x∈upsTo c d l j↔x∈l.take j\/ ∃i∈l.take j,x∈upL c i/\0<=x/\aboveB c d x=true
 |0,_=>⟨PO,fun x=>by simp[upsTo]⟩
 | j+1,hj=>by
   obtain⟨k,hk⟩: ∃k,l[j]? =some k:=⟨l[j],KZ (by omega)⟩;obtain⟨q1,q2⟩:=sY (c:=c) (d:=d) (l:=l) j (by omega);have e:upsTo c d l (j+1)=upTo c d (addU (upsTo c d l j) k) (upL c k) (upL c k).length:=bu _ _ hk;have e2: ∀x,x∈l.take (j+1)↔x∈l.take j\/x=k:=fun x=>by rw[Ky,hk];simp
   obtain⟨p1,p2⟩:=wh (c:=c) (d:=d) (U:=upL c k) _ (Kc _) (mX q1 k);rw[e];refine⟨p1,fun x=> ?_⟩;rw[p2,tY,q2,Kt];simp only[e2];constructor
   ·rintro(((a|⟨i,a,b⟩)|rfl)|b)
    ·exact .inl (.inl a)
    ·exact .inr ⟨i, .inl a,b⟩
    ·exact .inl (.inr rfl)
    ·exact .inr ⟨k, .inr rfl,b⟩
   ·rintro((a|rfl)|⟨i,a|rfl,b⟩)
    ·exact .inl (.inl (.inl a))
    ·exact .inl (.inr rfl)
    ·exact .inl (.inl (.inr ⟨i,a,b⟩))
    ·exact .inr b
theorem gV {c:ChD} {d:Int} {l:List Int} :(upsL c l d).Nodup/\ ∀x,x∈upsL c l d↔x∈l\/ ∃i∈l,x∈upL c i/\0<=x/\aboveB c d x=true:=by
 have:=sY (c:=c) (d:=d) (l:=l) _ (Kc _);rw[Kt]at this;exact this
def qB (c:ChD) (l:List Int) (d:Int) (i:Nat):Bool:=l.contains (i:Int)||l.any fun k=>aboveB c (i:Int) k&&aboveB c d (i:Int)
def pathL (c:ChD) (l:List Int) (d:Int):List Nat:=(List.range c.states.length).filter (qB c l d)
theorem gG {c:ChD} (h:Right c) {k i:Int} (ha:k∈upL c i) (h0:0<=k):inZ c k=true/\k<i:=by
 have:=jb h 40 i k ha
 have hi:inZ c i=true:=by
  cases hh:inZ c i with
  |true=>rfl
  |false=>rw[cK hh]at ha;simp at ha
 have:=aH.1 hi;exact⟨aH.2 ⟨h0,by omega⟩,by omega⟩
theorem kY {c:ChD} (h:Right c) {l:List Int} (hl: ∀x∈l,inZ c x=true) {d x:Int} :x∈zL (pathL c l d)↔x∈upsL c l d:=by
 rw[gV.2];constructor
 ·intro hx;obtain⟨i,hi,rfl⟩:=Kb.1 hx;obtain⟨_,hb⟩:=Ke.1 hi;unfold qB at hb;rw[Ll,Lj]at hb;rcases hb with hb|⟨k,hk,hb⟩
  ·exact .inl (by simpa using hb)
  ·rw[K3]at hb;exact .inr ⟨k,hk,by simpa[aboveB]using hb.1,by omega,hb.2⟩
 ·intro hx
  have hz:inZ c x=true:=by
   rcases hx with hx|⟨i,_,h1,h2,_⟩
   ·exact hl x hx
   ·exact(gG h h1 h2).1
  have h3:=aH.1 hz;refine Kb.2 ⟨x.toNat,Ke.2 ⟨Kw.2 (by omega),?_⟩,by omega⟩;have e:((x.toNat:Nat):Int)=x:=by omega
  unfold qB;rw[e,Ll,Lj];rcases hx with hx|⟨i,h0,h1,h2,h4⟩
  ·exact .inl (by simpa using hx)
  ·exact .inr ⟨i,h0,by rw[K3];exact⟨by simpa[aboveB]using h1,h4⟩⟩
theorem xw {c:ChD} (h:Full c) {l:List Int} (hl: ∀x∈l,inZ c x=true) (d:Int):sortL c (growL c (upsL c l d))=sortL c (growRL c (zL (pathL c l d))):=by
 apply Ah;intro x
 have hp: ∀x∈zL (pathL c l d),inZ c x=true:=fun x hx=>by
  obtain⟨i,hi,rfl⟩:=Kb.1 hx;exact aV.2 (Kw.1 (Ke.1 hi).1)
 rw[eS h gV.1,r7 h hp];exact⟨.congr fun x=>(kY h.toRight hl).symm, .congr fun x=>kY h.toRight hl⟩
end
section
open Go.RowKit
/-! Rising lists -/
def upB (l:List Int) (j:Nat):Bool:=(j==0)||decide (l.getD (j-1) 0<l.getD j 0)
def iu (l:List Int) (j:Nat):Bool:=(j==0)||decide (¬l.getD j 0<l.getD (j-1) 0)
def fq (l:List Int):Bool:= !l.isEmpty&&(List.range l.length).all (upB l)
def io (l:List Int):Bool:=(List.range l.length).all (iu l)
theorem zh (l:List Int) (j:Nat) (hj:j<l.length):Lib.keeps l.toArray j=((j==0)||decide (l.getD j 0≠l.getD (j-1) 0)):=by
 unfold Lib.keeps
 have e: ∀k,k<l.length->l.toArray[k]! =l.getD k 0:=fun k hk=>by
  rw[NA _ k (by simpa using hk),Kv,KZ hk];simp
 rw[e j hj,e (j-1) (by omega)];by_cases h:j=0<;>simp[h]
theorem yl (l:List Int):(Lib.compact l).length=l.length↔ ∀j,j<l.length->Lib.keeps l.toArray j=true:=by
 unfold Lib.compact Lib.compactUpTo;rw[Ko]
 conv=>lhs;rhs;rw[<-ND (n:=l.length)]
 rw[NU];simp
theorem I8 (l:List Int):(!l.isEmpty&&io l&&decide ((Lib.compact l).length=l.length))=fq l:=by
 unfold fq io;rw[Ol]
 congr 1
 rw[LC,K3,Kh,yl,K7,K7];simp only[Kw];constructor
 ·rintro⟨h1,h2⟩ j hj;have a:=h1 j hj;have b:=h2 j hj;rw[zh l j hj]at b;unfold upB;unfold iu at a;by_cases h0:j=0
  ·simp[h0]
  ·simp[h0]at a b |-;omega
 ·intro h;refine⟨fun j hj=> ?_,fun j hj=> ?_⟩
  ·have a:=h j hj;unfold upB at a;unfold iu;by_cases h0:j=0
   ·simp[h0]
   ·simp[h0]at a |-;omega
  ·have a:=h j hj;rw[zh l j hj];unfold upB at a;by_cases h0:j=0
   ·simp[h0]
   ·simp[h0]at a |-;omega
theorem jg {l:List Int} (h:fq l=true):l.Nodup:=by
 unfold fq at h;rw[K3,K7]at h
 have key: ∀i d,i+d+1<l.length->l.getD i 0<l.getD (i+d+1) 0:=fun i d=>by
  induction d with
  | zero=>
    intro hd;have:=h.2 (i+1) (Kw.2 (by omega));unfold upB at this;simpa using this
  | succ d ih=>
    intro hd;have h1:=ih (by omega);have:=h.2 (i+d+1+1) (Kw.2 (by omega));unfold upB at this;have h2:l.getD (i+d+1) 0<l.getD (i+d+1+1) 0:=by simpa using this
    rw[show i+(d+1)+1=i+d+1+1 by omega];omega
 rw[MJ,LQ];intro i j hi hj hij e;have:=key i (j-i-1) (by omega);rw[show i+(j-i-1)+1=j by omega]at this;simp[Kv,KZ hi,KZ hj,e]at this
/-! Deep memories -/
def cO (c:ChD) (l:List Int) (i:Int):Bool:=match at_ c i with
 |some s=> !(((s.kind==1)&&decide (1<manyI l (kidsL c i true)))||((s.kind==4)||(s.kind==5)))
 |none=>false
def dq (c:ChD) (parent i:Int):Bool:=aboveB c parent i&&(kidsL c i true).isEmpty
def deepA (c:ChD) (parent:Int) (l:List Int):List Int:=upsL c l parent++[parent]
def deepB (c:ChD) (parent:Int) (l:List Int):Bool:=fq l&&l.all (dq c parent)&&decide ((growL c (deepA c parent l)).length=(deepA c parent l).length)&&(growL c (deepA c parent l)).all (cO c (growL c (deepA c parent l)))
def cj (c:ChD) (parent i:Int):Bool:=aboveB c parent i&&(match at_ c i with|some s=> !aT s|none=>false)&&(kidsL c i true).isEmpty
def ck (c:ChD) (l:List Int) (i:Int):Bool:=match at_ c i with
 |some s=> !(((s.kind==1)&&decide (manyI l (kidsL c i true)≠min (kidsL c i true).length 1))||((s.kind==2)&&decide (manyI l (kidsL c i true)≠(kidsL c i true).length)))
 |none=>false
def deepRA (c:ChD) (parent:Int) (l:List Int):List Int:=zL (pathL c l parent)++[parent]
def sB (c:ChD) (parent:Int) (l:List Int):Bool:=fq l&&l.all (cj c parent)&&(deepRA c parent l).all (ck c (deepRA c parent l))
theorem vN (c:ChD): ∀(f:Nat) (l t:List Int),∃a,i6 c f l t=l++a
 |0,l,t=>⟨[],by simp[i6]⟩
 |f+1,l,[]=>⟨[],by simp[i6]⟩
 | f+1,l,i::r=>by
   obtain⟨a,e⟩:=vN c f (l++iy c l i) (r++iy c l i);exact⟨iy c l i++a,by unfold i6;rw[e,LM]⟩
theorem kM (c:ChD): ∀(f:Nat) (l t:List Int),l.Nodup->(i6 c f l t).Nodup
 |0,l,t,h=>h
 |f+1,l,[],h=>h
 | f+1,l,i::r,h=>by
   unfold i6;refine kM c f _ _ ?_;rw[MW];refine⟨h,fO c l i,fun x hx y hy e=> ?_⟩;subst e;have:=(Ke.1 hy).2;simp[hx]at this
theorem FT {c:ChD} (h:Full c) {l:List Int} (hn:l.Nodup):(growL c l).length=l.length↔ ∀x,Gr c l x->x∈l:=by
 obtain⟨a,e⟩:=vN c (missL c l+l.length) l l;have e:growL c l=l++a:=e;constructor
 ·intro hl x hx;have:a=[]:=LS (by rw[e,K8]at hl;omega);rw[this,Lo]at e;rw[<-e];exact(eS h hn).2 hx
 ·intro hx;have h1:=(kM c (missL c l+l.length) l l hn).length_le_of_subset (l₂:=l) fun x hh=>hx x ((eS h hn).1 hh);have h1:(growL c l).length<=l.length:=h1;rw[e,K8]at h1 |-;omega
theorem gw {l l':List Int} (h: ∀x,x∈l↔x∈l') (ks:List Nat):manyI l ks=manyI l' ks:=by
 unfold manyI
 congr 1
 apply MG;intro k _;rw[LC,K6,K6];exact h _
theorem qc {c:ChD} (h:Full c): ∀(n:Nat) (i k:Int),i<n->k∈upL c i->0<=k->ap c k=true
 | 0,i,k,hn,hk,h0=>by
   cases hh:inZ c i with
   |true=>have:=aH.1 hh;omega
   |false=>rw[cK hh]at hk;simp at hk
 | n+1,i,k,hn,hk,h0=>by
   cases hh:inZ c i with
   |false=>rw[cK hh]at hk;simp at hk
   | true=>
     rw[cZ h.toRight hh]at hk;have hp:=dM h.toRight hh;rcases hk with rfl|hk
     ·obtain⟨j,s,rfl,hs,_⟩:=cF hh;have:=h.st j s hs;simp only[bz,K3]at this;have:=this.1.1.1.2;rw[dw hs]at h0 |-;simp only[cm,Ll,K3,L5]at this;rcases this with e|⟨_,e⟩
      ·omega
      ·exact e
     ·exact qc h n _ k (by omega) hk h0
theorem gZ {c:ChD} {i:Int} (h:ap c i=true): ∃s,at_ c i=some s/\(s.kind=1\/s.kind=2):=by
 unfold ap at h;split at h
 ·rename_i s hs;refine⟨s,hs,?_⟩;unfold eG at h;simpa using h
 ·cases h
theorem ki {c:ChD} (h:Full c) {i:Int} {s:StD} (hs:at_ c i=some s):(s.kind=1/\(kidsL c i true=[]\/(0<=jr c i/\jr c i∈kidZ c i)))\/(s.kind=2/\kidsL c i true≠[])\/(s.kind=3/\kidsL c i true=[])\/((s.kind=4\/s.kind=5)/\kidsL c i true=[]):=by
 have hz:0<=i:=by
  unfold at_ at hs;split at hs
  ·assumption
  ·cases hs
 obtain⟨k,rfl⟩: ∃k:Nat,i=k:=⟨i.toNat,by omega⟩;have he:jr c (k:Int)=s.initial:=by unfold jr;rw[hs]
 rw[bI]at hs;rcases h.cases hs with⟨e,⟨e2,_⟩|⟨j,hj,e2⟩⟩|⟨e,_,e2,_⟩|⟨e,e2,_⟩|⟨e,e2,_⟩
 ·exact .inl ⟨e, .inl e2⟩
 ·exact .inl ⟨e, .inr (by rw[he,e2];exact⟨by omega,Kb.2 ⟨j,hj,rfl⟩⟩)⟩
 ·exact .inr (.inl ⟨e,e2⟩)
 ·exact .inr (.inr (.inl ⟨e,lS e2⟩))
 ·exact .inr (.inr (.inr ⟨e,lS e2⟩))
theorem bk {c:ChD} {i:Int} {s:StD} (hs:at_ c i=some s):ah c i=(s.kind==1):=by unfold ah;rw[hs]
theorem j6 {l:List Int} {ks:List Nat} :manyI l ks=ks.length↔ ∀k∈zL ks,k∈l:=by
 unfold manyI;rw[NU];constructor
 ·intro h k hk;obtain⟨j,hj,rfl⟩:=Kb.1 hk;simpa using h j hj
 ·intro h k hk;simpa using h k (Kb.2 ⟨k,hk,rfl⟩)
theorem oz {c:ChD} (h:Full c) {parent:Int} (hp:ap c parent=true) (l:List Int):deepB c parent l=sB c parent l:=by
 unfold deepB sB;cases hr:fq l with
 |false=>rfl
 |true=>
 simp only[LN];by_cases hleaf:l.all (dq c parent)=true
 ·rw[hleaf,LN]
  have hz: ∀x∈l,aboveB c parent x=true/\kidsL c x true=[]/\inZ c x=true:=fun x hx=>by
   have:=K7.1 hleaf x hx;unfold dq at this;rw[K3]at this;refine⟨this.1,by simpa using this.2,?_⟩;cases hh:inZ c x with
   |true=>rfl
   | false=>
     have:=this.1;unfold aboveB at this;rw[cK hh]at this;simp at this
  obtain⟨sp,hsp,hk12⟩:=gZ hp
  have hp0:0<=parent:=by
   unfold at_ at hsp;split at hsp
   ·assumption
   ·cases hsp
  obtain⟨un,um⟩:=gV (c:=c) (d:=parent) (l:=l)
  have habove: ∀x∈upsL c l parent,aboveB c parent x=true:=fun x hx=>by
   rcases (um x).1 hx with hx|⟨_,_,_,_,hx⟩
   ·exact(hz x hx).1
   ·exact hx
  have hnp:parent∉upsL c l parent:=fun hh=>by
   have:=habove _ hh;unfold aboveB at this;have:=(jb h.toRight 40 parent parent (K6.1 this)).2;omega
  have hnd:(deepA c parent l).Nodup:=by
   unfold deepA;rw[MW];refine⟨un,by simp,fun x hx y hy e=> ?_⟩;rw[Kl.1 hy]at e;rw[e]at hx;exact hnp hx
  have hmem: ∀x,x∈deepRA c parent l↔x∈deepA c parent l:=fun x=>by
   unfold deepRA deepA;rw[Kx,Kx,kY h.toRight fun x hx=>(hz x hx).2.2]
  have hin: ∀x∈deepA c parent l,x∈l\/ap c x=true:=fun x hx=>by
   rcases Kx.1 hx with hx|hx
   ·rcases (um x).1 hx with hx|⟨i,_,h1,h2,_⟩
    ·exact .inl hx
    ·exact .inr (qc h 40 i x (by
      cases hh:inZ c i with
      |true=>have:=aH.1 hh;have:=h.few;omega
      |false=>rw[cK hh]at h1;simp at h1) h1 h2)
   ·rw[Kl.1 hx];exact .inr hp
  have hla: ∀x∈l,x∈deepA c parent l:=fun x hx=>LW _ ((um x).2 (.inl hx))
  have hat: ∀x∈deepA c parent l,∃s,at_ c x=some s:=fun x hx=>by
   rcases hin x hx with hx|hx
   ·obtain⟨_,s,_,_,e⟩:=cF (hz x hx).2.2;exact⟨s,e⟩
   ·obtain⟨s,e,_⟩:=gZ hx;exact⟨s,e⟩
  rw[LC,K3,Kh,FT h hnd,K3];constructor
  ·rintro⟨hc,hcl⟩
   have gm: ∀x,x∈growL c (deepA c parent l)↔x∈deepA c parent l:=fun x=>by
    rw[eS h hnd];exact⟨hc x, .base⟩
   have hcl: ∀x∈deepA c parent l,cO c (deepA c parent l) x=true:=fun x hx=>by
    have:=K7.1 hcl x ((gm x).2 hx);unfold cO at this |-;obtain⟨s,hs⟩:=hat x hx;rw[hs]at this |-;rw[gw gm]at this;exact this
   refine⟨K7.2 fun x hx=> ?_,K7.2 fun x hx=> ?_⟩
   ·have:=hcl x (hla x hx);unfold cO at this;unfold cj;obtain⟨s,hs⟩:=hat x (hla x hx);rw[hs]at this |-;simp only at this |-;rw[(hz x hx).1,(hz x hx).2.1];unfold aT;simp only[Bool.not_or,K3]at this;simp[this.2.1,this.2.2]at*
   ·have hx:=(hmem x).1 hx;obtain⟨s,hs⟩:=hat x hx;have h1:=hcl x hx;unfold cO at h1;unfold ck;rw[hs]at h1 |-;simp only at h1 |-;rw[gw hmem];rcases ki h hs with⟨e,e2⟩|⟨e,e2⟩|⟨e,e2⟩|⟨e,e2⟩
    ·have hle:manyI (deepA c parent l) (kidsL c x true)<=1:=by
      rw[e]at h1;simp at h1;exact h1
     have:manyI (deepA c parent l) (kidsL c x true)=min (kidsL c x true).length 1:=by
      rcases e2 with e2|⟨e2,e3⟩
      ·rw[e2];rfl
      ·have hlen:0< (kidsL c x true).length:=by
        cases hq:kidsL c x true with
        |nil=>rw[kidZ,hq]at e3;simp at e3
        |cons=>simp
       have hpos:manyI (deepA c parent l) (kidsL c x true)≠0:=fun h0=>by
        have hno:=gd.1 h0;exact hno _ e3 (hc _ (.ini (.base hx) (by rw[bk hs,e];rfl) hno e2))
       omega
     simp[e,this]
    ·have:manyI (deepA c parent l) (kidsL c x true)=(kidsL c x true).length:=j6.2 fun k hk=>hc k (.par (.base hx) (by rw[bk hs,e];rfl) hk);simp[e,this]
    ·simp[e]
    ·rcases e with e|e<;>simp[e]
  ·rintro⟨hl2,hcd⟩
   have hcd: ∀x∈deepA c parent l,ck c (deepA c parent l) x=true:=fun x hx=>by
    have:=K7.1 hcd x ((hmem x).2 hx);unfold ck at this |-;obtain⟨s,hs⟩:=hat x hx;rw[hs]at this |-;rw[gw hmem]at this;exact this
   have hgr: ∀x,Gr c (deepA c parent l) x->x∈deepA c parent l:=fun x g=>by
    induction g with
    |base h=>exact h
    | ini g hpp hn h0 ih=>
      rename_i p
      exfalso
      obtain⟨s,hs⟩:=hat p ih;have h1:=hcd p ih;unfold ck at h1;rw[hs]at h1;rw[bk hs]at hpp;have hk:s.kind=1:=by simpa using hpp
      have hini:=iK h (by rw[bk hs,hk];rfl) h0
      have hlen:0< (kidsL c p true).length:=by
       cases hq:kidsL c p true with
       |nil=>rw[kidZ,hq]at hini;simp at hini
       |cons=>simp
      have h0:=gd.2 hn;simp only[hk,h0]at h1;simp at h1;omega
    | par g hpp hk ih=>
      rename_i p k;obtain⟨s,hs⟩:=hat p ih;have h1:=hcd p ih;unfold ck at h1;rw[hs]at h1;rw[bk hs]at hpp;rcases ki h hs with⟨e,_⟩|⟨e,_⟩|⟨_,e⟩|⟨_,e⟩
      ·rw[e]at hpp;cases hpp
      ·simp[e]at h1;exact j6.1 h1 k hk
      ·rw[kidZ,e]at hk;simp at hk
      ·rw[kidZ,e]at hk;simp at hk
   have gm: ∀x,x∈growL c (deepA c parent l)↔x∈deepA c parent l:=fun x=>by
    rw[eS h hnd];exact⟨hgr x, .base⟩
   refine⟨hgr,K7.2 fun x hx=> ?_⟩;have hx:=(gm x).1 hx;obtain⟨s,hs⟩:=hat x hx;have h1:=hcd x hx;unfold ck at h1;unfold cO;rw[hs]at h1 |-;simp only at h1 |-;rw[gw gm]
   have hk45:s.kind≠4/\s.kind≠5:=by
    rcases hin x hx with hx|hx
    ·have:=K7.1 hl2 x hx;unfold cj at this;rw[hs]at this;simp only[aT,K3,Bool.not_or]at this;have:=this.1.2;exact⟨by simpa using this.1,by simpa using this.2⟩
    ·obtain⟨s',e,e2⟩:=gZ hx;rw[hs]at e;cases e;omega
   have hle:s.kind=1->manyI (deepA c parent l) (kidsL c x true)<=1:=fun e=>by
    simp[e]at h1;omega
   by_cases e:s.kind=1
   ·have:=hle e;simp[e];omega
   ·simp[e,hk45.1,hk45.2]
 ·have hleaf:l.all (dq c parent)=false:=by simpa using hleaf
  rw[hleaf]
  have:l.all (cj c parent)=false:=by
   rw[Mf]at hleaf |-;obtain⟨x,hx,e⟩:=hleaf;refine⟨x,hx,fun hh=>e ?_⟩;unfold cj at hh;unfold dq;simp only[K3]at hh |-;exact⟨hh.1.1,hh.2⟩
  rw[this];rfl
/-! Memories -/
abbrev MemD:=Int×List Int
def k8 (c:ChD) (m:MemD):Bool:=match at_ c m.1 with
 |some s=>if s.kind=4 then decide (m.2.length=1)&&(kidZ c s.parent).contains (m.2.getD 0 0) else(s.kind==5)&&deepB c s.parent m.2
 |none=>false
def mG (c:ChD) (l:List MemD) (j:Nat):Bool:=match l[j]? with
 |some m=>k8 c m&&((j==0)||decide ((l.getD (j-1) (0,[])).1<m.1))
 |none=>true
def bU (c:ChD) (l:List MemD):Bool:=(List.range l.length).all (mG c l)
end
section
open Go.RowKit Go.ChangeShapes Go.WideShapes Go.ChangeAt
def mmAV (m:MemD):List AV:=[I m.1, .seq 1 (m.2.map intAV)]
def IA (m:MemD):Prop:=m.2.length<=maxLen
theorem C6:prog.cellsOf 27=1:=by kernel_rfl
theorem J1:prog.cellsOf 134=2:=by kernel_rfl
section
variable {H:Type} {enc:TypeId×Value->H} {w:World} {base:Nat} {spare:Nat->Bool} {held:Bool}
theorem open_int1 (m:Nat) (cs:List Value) (y:DataW H×List MemPlace) (h:DataW.trod enc prog w base spare held m 3 cs=some y): ∃a:Int,RE w intAV (fun _=>True) cs a:=by
 obtain⟨n,rfl, -, -⟩:=MC Tryz.underlying3 h;exact⟨n,⟨⟨rfl, .lit _⟩,trivial⟩,trivial⟩
theorem RVs.app {S:Nat->Nat->Prop} {w:World} : ∀ {vs us:List Value} {cs ds:List AV},RVs S w vs cs->RVs S w us ds->RVs S w (vs++us) (cs++ds)
 |[],_,[],_,_,h=>h
 |_::_,_,_::_,_,h1,h2=>⟨h1.1,RVs.app h1.2 h2⟩
end
end
section
open Go.RowKit
theorem KS (a b:Nat) (h:b<=a) (h':a<9223372036854775808):IntKind.i64.wrap ((a:Int)-(b:Int))=((a-b:Nat):Int):=by rw[aU (by omega) (by omega)];omega
abbrev ints34 (l:List Int):AV:= .seq 1 (l.map intAV)
def tmAV (t:List UInt8×Int):List AV:=[Sg t.1,I t.2]
def iQ (r:Rc):List AV:=[ints34 r.active,ints34 r.vars, .seq 2 (r.mem.map mmAV), .seq 2 (r.timers.map tmAV),B r.over]
theorem eA {α:Type} {l:List α} {i:Nat} {x d:α} (h:l[i]? =some x):l.getD i d=x:=by rw[Kv,h];rfl
theorem Je {α:Type} {l:List α} {i:Nat} {x:α} (h:l[i]? =some x):x∈l:=K4 h
theorem sQ {i:Nat} {f:Nat->Bool} (ha: ∀j,j<i->f j=true) (h:f i=true): ∀j,j<i+1->f j=true:=fun j hj=>by
 by_cases e:j=i
 ·rw[e];exact h
 ·exact ha j (by omega)
theorem ol: ∀a b:List UInt8,Op.bytesLess b a= !(Op.bytesLess a b||a==b)
 |[],[]=>rfl
 |[],_::_=>rfl
 |_::_,[]=>rfl
 | x::a,y::b=>by
   have ih:=ol a b;simp only[Op.bytesLess,List.cons_beq_cons,ih];by_cases h:x=y
   ·subst h;simp
   ·have h': ¬y=x:=fun e=>h e.symm;have e1:(x==y)=false:=by simpa using h
    have e2:(y==x)=false:=by simpa using h'
    have e3:decide (y<x)= !decide (x<y):=by
     rw[LC];simp[UInt8.lt_iff_toNat_lt];have:x.toNat≠y.toNat:=fun e=>h (UInt8.toNat_inj.1 e);omega
    simp[e1,e2,e3]
end
section
open Go.RowKit
end
section
open Go.RowKit
def Turned (s s2:St):Prop:= ∀(x:Ctx) (a:Act) (w:World) (m:Mem),Sim x s a w m-> ∃m',Sim x s2 a w m'
theorem Turned.refl (s:St):Turned s s:=fun _ _ _ m h=>⟨m,h⟩
theorem Turned.trans {s s2 s3:St} (h:Turned s s2) (k:Turned s2 s3):Turned s s3:=fun x a w m hh=>by
 obtain⟨m',h2⟩:=h x a w m hh;exact k x a w m' h2
theorem Turned.less {s s2:St} (h:Less s s2):Turned s s2:=fun _ _ _ m hh=>⟨m,hh.less h⟩
theorem Turned.ren {s:St} (r r2:Nat) (row:Row) (hne:r2≠r) (hr:s.rows r=some row) (hr2:s.rows r2=none) (hrz:row.sz≠0) (hp:row.pure=true):Turned s (fF s r r2 row):=fun _ _ _ _ hh=>⟨_,hh.ren r r2 row hne hr hr2 hrz hp⟩
theorem Turned.sees {s:St} (L:List (Nat×Nat×AV)) (hL:qL s L):Turned s (seenSt s L):=fun _ _ _ m hh=>by
 obtain⟨S',k⟩:=hh.sees L hL;exact⟨_,k⟩
theorem Turned.mapSee {s:St} (r:Nat) (row:Row) (hr:s.rows r=some row) (hsz:row.sz=0) (hb:row.es.all (·.all AV.bare)=true):Turned s (xb s r (.fmap row.es)):=fun _ _ _ m hh=>by
 obtain⟨S',k⟩:=hh.mapSee r row hr hsz hb;exact⟨_,k⟩
theorem Turned.head {s:St} {F:List (Nat×AV)} {R:List (Nat×Row)} (hF:cG s F) (hR:bh s R):Turned s (Go.Proofs.YtdpjgflalmnkdaaGreatDoor.head F R s.vs s.esc):= .less (dH hF hR)
section
variable {P:Program} {env:Env} {nt:Nat} {Q:Exit->St->Prop} {s:St}
theorem dh {c:Code} (h:awp P env nt c (fun e s1=> ∃s2,Turned s1 s2/\Q e s2) s):awp P env nt c Q s:=fun ro x he hn a w m hS=>by
 refine Mg (h ro x he hn a w m hS) ?_;rintro e a' w' ⟨s',m',⟨s2,h1,h2⟩,h3⟩;obtain⟨m2,h4⟩:=h1 _ _ _ _ h3;exact⟨s2,m2,h2,h4⟩
theorem iO {c:Code} {s2:St} (ht:Turned s s2) (h:awp P env nt c Q s2):awp P env nt c Q s:=fun ro x he hn a w m hS=>by
 obtain⟨m2,h4⟩:=ht _ _ _ _ hS;exact h ro x he hn a w m2 h4
end
def rowsAt:Nat->List Row->List (Nat×Row)
 |_,[]=>[]
 |b,r::l=>(b,r)::rowsAt (b+1) l
theorem ml {t:Nat} : ∀ {l:List Row} {b:Nat},al (rowsAt b l) t=if b<=t then l[t-b]? else none
 |[],b=>by simp[rowsAt,al]
 | r::l,b=>by
   simp only[rowsAt,al,ml (l:=l)];by_cases h:t=b
   ·subst h;simp
   ·rw[K2 h];by_cases h2:b<=t
    ·rw[K5 h2,K5 (by omega),show t-b=(t-(b+1))+1 by omega,ML]
    ·rw[K2 h2,K2 (by omega)]
theorem holdR_rowsAt {s:St} : ∀ {l:List Row} {b:Nat},(∀q r,l[q]? =some r->s.rows (q+b)=some r)->bh s (rowsAt b l)
 |[],b,h=>trivial
 | r::l,b,h=>⟨by have:=h 0 r rfl; rwa [Li] at this,holdR_rowsAt fun q r' hq=>by
    have:=h (q+1) r' (by simpa using hq)
    rwa [show q+1+b=q+(b+1) by omega]at this⟩
theorem mB {p:Nat×Row} : ∀ {l:List Row} {b:Nat},p∈rowsAt b l-> ∃q,l[q]? =some p.2/\p.1=q+b
 |[],b,h=>by simp[rowsAt]at h
 | r::l,b,h=>by
   simp only[rowsAt,Kr]at h;rcases h with rfl|h
   ·exact⟨0,rfl,by simp⟩
   ·obtain⟨q,h1,h2⟩:=mB h;exact⟨q+1,by simpa using h1,by omega⟩
end

end Go.Proofs.YtdpjgflalmnkdaaGreatDoor