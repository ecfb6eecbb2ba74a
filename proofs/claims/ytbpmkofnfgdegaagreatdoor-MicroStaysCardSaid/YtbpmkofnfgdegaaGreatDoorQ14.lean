/- table.events. -/
import Derived.Test.YtbpmkofnfgdegaaGreatDoorQ11
import Derived.Lib.SlicesCompact
import Derived.Test.YtbpmkofnfgdegaaGreatDoorQ10
import Derived.Test.YtbpmkofnfgdegaaGreatDoorQ13
import Derived.Test.YtbpmkofnfgdegaaGreatDoorQ5
import Derived.Test.YtbpmkofnfgdegaaGreatDoorQ6
import Derived.Test.YtbpmkofnfgdegaaGreatDoorQ9
import Derived.Test.YtbpmkofnfgdegaaGreatDoorQ8
set_option maxRecDepth 100000
set_option maxHeartbeats 8000000
set_option linter.unusedSimpArgs false
namespace Go.Proofs.YtbpmkofnfgdegaaGreatDoor
open Go.Proofs.Tryz
section
open Go.RowKit
def zaD (c:ChD) (i:Int):Bool:=match at_ c i with
 |some s=>s.kind==1
 |none=>false
def iniZ (c:ChD) (i:Int):Int:=match at_ c i with
 |some s=>s.initial
 |none=> -1
def aboveB (c:ChD) (k i:Int):Bool:=(upL c i).contains k
def domP (c:ChD) (tg i:Int):Bool:=decide (i<0)||(zaD c i&&aboveB c i tg)
def domE (c:ChD) (src tg:Int):Int:=((upL c src).find? (domP c tg)).getD (-1)
theorem zhO {α:Type} {p:α->Bool} {l:List α} {j:Nat} {x:α} (h:l[j]? =some x):(l.drop j).find? p=if p x=true then some x else(l.drop (j+1)).find? p:=by
 obtain⟨hj,rfl⟩:=List.getElem?_eq_some_iff.1 h;rw[List.drop_eq_getElem_cons hj,List.find?_cons];cases p l[j]<;>rfl
abbrev kidZ (c:ChD) (i:Int):List Int:=zL (kidsL c i true)
theorem zaO {c:ChD} (h:Right c) {i k:Int} (hk:k∈kidZ c i):inZ c k=true/\parZ c k=i/\i<k:=by
 obtain⟨j,hj,rfl⟩:=List.mem_map.1 hk;obtain⟨s,hs,hp,_⟩:=zog hj;refine⟨zar.2 (List.getElem?_eq_some_iff.1 hs).1,by rw[zck hs,hp],?_⟩;have:=h.par j s hs;omega
theorem ziK (c:ChD) (i:Int):(kidZ c i).Nodup:=by
 unfold kidZ zL;exact List.Pairwise.map _ (fun a b hne he=>hne (by omega)) (zaI c i true)
/-! What comes with a state -/
def newK (c:ChD) (l:List Int) (i:Int):List Int:=
 if zaD c i=true then(if (kidZ c i).any (fun k=>l.contains k)=true then [] else if 0<=iniZ c i then [iniZ c i] else []) else kidZ c i
def addK (c:ChD) (l:List Int) (i:Int):List Int:=(newK c l i).filter fun k=> !l.contains k
def zeK (c:ChD):Nat->List Int->List Int->List Int
 |0,l,_=>l
 |_+1,l,[]=>l
 |f+1,l,i::r=>zeK c f (l++addK c l i) (r++addK c l i)
def missL (c:ChD) (l:List Int):Nat:=((List.range c.states.length).filter fun k:Nat=> !l.contains (k:Int)).length
def growL (c:ChD) (l:List Int):List Int:=zeK c (missL c l+l.length) l l
inductive Gr (c:ChD) (l:List Int):Int->Prop
 |base {x:Int} (h:x∈l):Gr c l x
 |ini {p:Int} (h:Gr c l p) (hp:zaD c p=true) (hn: ∀k∈kidZ c p,k∉l) (h0:0<=iniZ c p):Gr c l (iniZ c p)
 |par {p k:Int} (h:Gr c l p) (hp:zaD c p=false) (hk:k∈kidZ c p):Gr c l k
theorem zfr {c:ChD} (h:Full c) {p:Int} (hp:zaD c p=true) (h0:0<=iniZ c p):iniZ c p∈kidZ c p:=by
 unfold zaD at hp;unfold iniZ at h0 |-;cases ha:at_ c p with
 |none=>rw[ha]at hp;cases hp
 | some s=>
   rw[ha]at hp h0;simp only at hp h0 |-
   have hz:0<=p:=by
    unfold at_ at ha;split at ha
    ·assumption
    ·cases ha
   obtain⟨k,rfl⟩: ∃k:Nat,p=k:=⟨p.toNat,by omega⟩;rw[zaM]at ha;have hk:s.kind=1:=by simpa using hp
   rcases h.cases ha with⟨_,h2|⟨j,hj,e⟩⟩|⟨e,_⟩|⟨e,_⟩|⟨e|e,_⟩
   ·omega
   ·rw[e];exact List.mem_map.2 ⟨j,hj,rfl⟩
   all_goals omega
theorem zn3 {c:ChD} (h:Full c) {l:List Int} {i k:Int} (hk:k∈newK c l i):k∈kidZ c i:=by
 unfold newK at hk;split at hk
 ·rename_i hp;split at hk
  ·cases hk
  ·split at hk
   ·rename_i h0;rw[List.mem_singleton.1 hk];exact zfr h hp h0
   ·cases hk
 ·exact hk
theorem zcT {c:ChD} (h:Full c) {l:List Int} {i k:Int} (hk:k∈addK c l i):k∉l/\inZ c k=true/\parZ c k=i:=by
 obtain⟨h1,h2⟩:=List.mem_filter.1 hk;obtain⟨q1,q2,_⟩:=zaO h.toRight (zn3 h h1);exact⟨by simpa using h2,q1,q2⟩
theorem ziE (c:ChD) (l:List Int) (i:Int):(newK c l i).Nodup:=by
 unfold newK;split
 ·split
  ·exact List.nodup_nil
  ·split
   ·simp
   ·exact List.nodup_nil
 ·exact ziK c i
theorem zcE (c:ChD) (l:List Int) (i:Int):(addK c l i).Nodup:=(ziE c l i).sublist List.filter_sublist
theorem ziR {α:Type} (p q:α->Bool): ∀l:List α,(l.filter fun x=>p x&& !q x).length+(l.filter fun x=>p x&&q x).length=(l.filter p).length
 |[]=>rfl
 | x::l=>by
   have:=ziR p q l;simp only[List.filter_cons];cases p x<;>cases q x<;>simp<;>omega
theorem zgJ {c:ChD} {l a:List Int} (hn:a.Nodup) (ha: ∀k∈a,k∉l/\inZ c k=true):missL c (l++a)+a.length<=missL c l:=by
 have e:=ziR (fun k:Nat=> !l.contains (k:Int)) (fun k:Nat=>a.contains (k:Int)) (List.range c.states.length)
 have e1:missL c (l++a)=((List.range c.states.length).filter fun k:Nat=> !l.contains (k:Int)&& !a.contains (k:Int)).length:=by
  unfold missL
  congr 1
  apply List.filter_congr;intro k _;simp[List.contains_eq_mem]
 have e2:a.length<=((List.range c.states.length).filter fun k:Nat=> !l.contains (k:Int)&&a.contains (k:Int)).length:=by
  have:(a.map Int.toNat).Nodup:=by
   refine List.Pairwise.map (R:=fun x y=>x≠y/\0<=x/\0<=y) _ (fun x y hxy=>by omega) ?_;refine List.Pairwise.imp_of_mem ?_ hn;intro x y hx hy hne;exact⟨hne,(zag.1 (ha x hx).2).1,(zag.1 (ha y hy).2).1⟩
  have:=this.length_le_of_subset (l₂:=(List.range c.states.length).filter fun k:Nat=> !l.contains (k:Int)&&a.contains (k:Int)) fun x hx=>by
   obtain⟨y,hy,rfl⟩:=List.mem_map.1 hx;obtain⟨y1,y2⟩:=ha y hy;have y3:=zag.1 y2;rw[List.mem_filter,List.mem_range];have e:((y.toNat:Nat):Int)=y:=by omega
   refine⟨by omega,?_⟩;rw[e];simp[y1,hy]
  simpa using this
 unfold missL at e1 |-;omega
structure Grown (c:ChD) (l0 l t:List Int):Prop where
 sub: ∀x∈l0,x∈l
 todo: ∀x∈t,x∈l
 nd:t.Nodup
 gr: ∀x∈l,Gr c l0 x
 par: ∀x∈l,x∉l0->parZ c x∈l/\parZ c x∉t
 done: ∀p∈l,p∉t->(zaD c p=true->(∀k∈kidZ c p,k∉l0)->0<=iniZ c p->iniZ c p∈l)/\(zaD c p=false-> ∀k∈kidZ c p,k∈l)
theorem Grown.step {c:ChD} (h:Full c) {l0 l r:List Int} {i:Int} (g:Grown c l0 l (i::r)):Grown c l0 (l++addK c l i) (r++addK c l i):=by
 have hi:=g.todo i (by simp);obtain⟨n1,n2⟩:=List.nodup_cons.1 g.nd
 have old: ∀k∈kidZ c i,k∈l->k∈l0:=fun k hk hl=>Classical.byContradiction fun hn=>by
  have:=(g.par k hl hn).2;rw[(zaO h.toRight hk).2.1]at this;exact this (by simp)
 have hgr: ∀x∈addK c l i,Gr c l0 x:=fun x hx=>by
  obtain⟨h1,h2⟩:=List.mem_filter.1 hx;have h1':=h1;unfold newK at h1;split at h1
  ·rename_i hp;split at h1
   ·cases h1
   ·rename_i hany;split at h1
    ·rename_i h0;rw[List.mem_singleton.1 h1];refine .ini (g.gr i hi) hp (fun k hk hl=>hany ?_) h0;rw[List.any_eq_true];exact⟨k,hk,by simpa using g.sub k hl⟩
    ·cases h1
  ·rename_i hp;exact .par (g.gr i hi) (by simpa using hp) h1
 refine⟨fun x hx=>List.mem_append_left _ (g.sub x hx),fun x hx=> ?_,?_,fun x hx=> ?_,fun x hx hn=> ?_,fun p hp hpt=> ?_⟩
 ·rcases List.mem_append.1 hx with hx|hx
  ·exact List.mem_append_left _ (g.todo x (List.mem_cons_of_mem _ hx))
  ·exact List.mem_append_right _ hx
 ·rw[List.nodup_append];refine⟨n2,zcE c l i,fun x hx y hy e=> ?_⟩;subst e;exact(zcT h hy).1 (g.todo x (List.mem_cons_of_mem _ hx))
 ·rcases List.mem_append.1 hx with hx|hx
  ·exact g.gr x hx
  ·exact hgr x hx
 ·rcases List.mem_append.1 hx with hx|hx
  ·obtain⟨q1,q2⟩:=g.par x hx hn;refine⟨List.mem_append_left _ q1,fun hh=> ?_⟩;rcases List.mem_append.1 hh with hh|hh
   ·exact q2 (List.mem_cons_of_mem _ hh)
   ·exact(zcT h hh).1 q1
  ·obtain⟨q1,_,q3⟩:=zcT h hx;rw[q3];refine⟨List.mem_append_left _ hi,fun hh=> ?_⟩;rcases List.mem_append.1 hh with hh|hh
   ·exact n1 hh
   ·exact(zcT h hh).1 hi
 ·have hpl:p∈l:=by
   rcases List.mem_append.1 hp with hp|hp
   ·exact hp
   ·exact absurd (List.mem_append_right _ hp) hpt
  by_cases e:p=i
  ·subst e
   have key: ∀k∈newK c l p,k∈l++addK c l p:=fun k hk=>by
    by_cases hl:k∈l
    ·exact List.mem_append_left _ hl
    ·exact List.mem_append_right _ (List.mem_filter.2 ⟨hk,by simpa using hl⟩)
   refine⟨fun hpp hno h0=>key _ ?_,fun hpp k hk=>key k ?_⟩
   ·unfold newK;rw[if_pos hpp,if_neg ?_,if_pos h0]
    ·simp
    ·rw[List.any_eq_true];rintro⟨k,hk,hl⟩;exact hno k hk (old k hk (by simpa using hl))
   ·unfold newK;rw[if_neg (by rw[hpp];simp)];exact hk
  ·have hpt':p∉i::r:=fun hh=>by
    rcases List.mem_cons.1 hh with rfl|hh
    ·exact e rfl
    ·exact hpt (List.mem_append_left _ hh)
   obtain⟨q1,q2⟩:=g.done p hpl hpt';exact⟨fun a b d=>List.mem_append_left _ (q1 a b d),fun a k hk=>List.mem_append_left _ (q2 a k hk)⟩
theorem Grown.all {c:ChD} {l0 l:List Int} (g:Grown c l0 l []) {x:Int} :x∈l↔Gr c l0 x:=by
 refine⟨g.gr x,fun h=> ?_⟩
 induction h with
 |base h=>exact g.sub _ h
 |ini _ hp hn h0 ih=>exact(g.done _ ih (by simp)).1 hp hn h0
 |par _ hp hk ih=>exact(g.done _ ih (by simp)).2 hp _ hk
theorem Grown.grow {c:ChD} (h:Full c) {l0:List Int} : ∀(f:Nat) (l t:List Int),Grown c l0 l t->missL c l+t.length<=f->Grown c l0 (zeK c f l t) []
 | 0,l,t,g,hf=>by
   have:t=[]:=List.eq_nil_of_length_eq_zero (by omega);subst this;exact g
 |f+1,l,[],g,hf=>g
 | f+1,l,i::r,g,hf=>by
   unfold zeK;refine Grown.grow h f _ _ (g.step h) ?_;have:=zgJ (c:=c) (l:=l) (zcE c l i) fun k hk=>⟨(zcT h hk).1,(zcT h hk).2.1⟩;simp only[List.length_append,List.length_cons]at hf |-;omega
theorem zlk {c:ChD} (h:Full c) {l0:List Int} : ∀ {f g:Nat} {l t:List Int},Grown c l0 l t->missL c l+t.length<=f->missL c l+t.length<=g->zeK c f l t=zeK c g l t
 |0,0,_,_,_,_,_=>rfl
 | 0,g+1,l,t,_,hf,_=>by
   have:t=[]:=List.eq_nil_of_length_eq_zero (by omega);subst this;rfl
 | f+1,0,l,t,_,_,hg=>by
   have:t=[]:=List.eq_nil_of_length_eq_zero (by omega);subst this;rfl
 |f+1,g+1,l,[],_,_,_=>rfl
 | f+1,g+1,l,i::r,gr,hf,hg=>by
   have:=zgJ (c:=c) (l:=l) (zcE c l i) fun k hk=>⟨(zcT h hk).1,(zcT h hk).2.1⟩;simp only[List.length_cons]at hf hg;unfold zeK;exact zlk h (gr.step h) (by rw[List.length_append];omega) (by rw[List.length_append];omega)
theorem zhJ {c:ChD} {l:List Int} (hn:l.Nodup):Grown c l l l:=⟨fun _ h=>h,fun _ h=>h,hn,fun _ h=> .base h,fun _ h hh=>absurd h hh,fun _ h hh=>absurd h hh⟩
theorem zc5 {c:ChD} (h:Full c) {l:List Int} (hn:l.Nodup) {x:Int} :x∈growL c l↔Gr c l x:=((zhJ hn).grow h _ _ _ (Nat.le_refl _)).all
theorem Gr.real {c:ChD} (h:Full c) {l:List Int} {x:Int} (g:Gr c l x):x∈l\/(x∈kidZ c (parZ c x)/\Gr c l (parZ c x)/\(zaD c (parZ c x)=true->x=iniZ c (parZ c x)/\ ∀k∈kidZ c (parZ c x),k∉l)):=by
 cases g with
 |base h=>exact .inl h
 | ini g hp hn h0=>
   rename_i p;have hk:=zfr h hp h0;have e:=(zaO h.toRight hk).2.1;rw[e];exact .inr ⟨hk,g,fun _=>⟨rfl,hn⟩⟩
 | par g hp hk=>
   have e:=(zaO h.toRight hk).2.1;rw[e];exact .inr ⟨hk,g,fun hh=>by rw[hp]at hh;cases hh⟩
theorem Gr.in {c:ChD} (h:Full c) {l:List Int} (hl: ∀x∈l,inZ c x=true) {x:Int} (g:Gr c l x):inZ c x=true:=by
 rcases g.real h with hx|⟨hx,_⟩
 ·exact hl x hx
 ·exact(zaO h.toRight hx).1
theorem Gr.congr {c:ChD} {l l':List Int} (h: ∀x,x∈l↔x∈l') {x:Int} (g:Gr c l x):Gr c l' x:=by
 induction g with
 |base hx=>exact .base ((h _).1 hx)
 |ini _ hp hn h0 ih=>exact .ini ih hp (fun k hk hh=>hn k hk ((h k).2 hh)) h0
 |par _ hp hk ih=>exact .par ih hp hk
/-! As the document says -/
theorem zfk {l:List Int} {ks:List Nat} :manyI l ks=0↔ ∀k∈zL ks,k∉l:=by
 unfold manyI;rw[List.length_eq_zero_iff,List.filter_eq_nil_iff];constructor
 ·intro h k hk;obtain⟨j,hj,rfl⟩:=List.mem_map.1 hk;simpa using h j hj
 ·intro h k hk;simpa using h k (List.mem_map.2 ⟨k,hk,rfl⟩)
theorem zvV (c:ChD) (l:List Int):missL c l<=c.states.length:=by
 unfold missL;exact Nat.le_trans (List.length_filter_le ..) (by simp)
/-! The ways up of some states -/
def addU (o:List Int) (i:Int):List Int:=if o.contains i=true then o else o++[i]
def upTo (c:ChD) (d:Int) (o U:List Int) (m:Nat):List Int:=(U.take m).foldl (fun o k=>if 0<=k/\aboveB c d k=true then addU o k else o) o
def upsTo (c:ChD) (d:Int) (l:List Int) (j:Nat):List Int:=(l.take j).foldl (fun o i=>upTo c d (addU o i) (upL c i) (upL c i).length) []
def upsL (c:ChD) (l:List Int) (d:Int):List Int:=upsTo c d l l.length
theorem za3 {α β:Type} (f:β->α->β) (b:β) {l:List α} {j:Nat} {x:α} (h:l[j]? =some x):(l.take (j+1)).foldl f b=f ((l.take j).foldl f b) x:=by
 rw[List.take_add_one,h,List.foldl_append];rfl
theorem zkn {o:List Int} {i x:Int} :x∈addU o i↔x∈o\/x=i:=by
 unfold addU;split
 ·rename_i h;have h:=List.contains_iff_mem.1 h;exact⟨.inl,fun hh=>hh.elim id fun e=>e ▸ h⟩
 ·rw[List.mem_append,List.mem_singleton]
theorem zf8 {o:List Int} (h:o.Nodup) (i:Int):(addU o i).Nodup:=by
 unfold addU;split
 ·exact h
 ·rename_i hh;rw[List.nodup_append];refine⟨h,by simp,fun x hx y hy e=> ?_⟩;rw[List.mem_singleton.1 hy]at e;subst e;exact hh (List.contains_iff_mem.2 hx)
theorem zma {c:ChD} {d:Int} {U:List Int} : ∀(m:Nat) {o:List Int},m<=U.length->o.Nodup->(upTo c d o U m).Nodup/\ ∀x,x∈upTo c d o U m↔x∈o\/(x∈U.take m/\0<=x/\aboveB c d x=true)
 |0,o,_,hn=>⟨hn,fun x=>by simp[upTo]⟩
 | m+1,o,hm,hn=>by
   obtain⟨k,hk⟩: ∃k,U[m]? =some k:=⟨U[m],List.getElem?_eq_getElem (by omega)⟩;obtain⟨q1,q2⟩:=zma (c:=c) (d:=d) (U:=U) m (o:=o) (by omega) hn;have e:upTo c d o U (m+1)=if 0<=k/\aboveB c d k=true then addU (upTo c d o U m) k else upTo c d o U m:=za3 _ _ hk
   have e2: ∀x,x∈U.take (m+1)↔x∈U.take m\/x=k:=fun x=>by rw[List.take_add_one,hk];simp
   rw[e];split
   ·rename_i hc;refine⟨zf8 q1 k,fun x=> ?_⟩;rw[zkn,q2,e2];constructor
    ·rintro((a|⟨a,b⟩)|rfl)
     ·exact .inl a
     ·exact .inr ⟨.inl a,b⟩
     ·exact .inr ⟨.inr rfl,hc⟩
    ·rintro(a|⟨a|rfl,b⟩)
     ·exact .inl (.inl a)
     ·exact .inl (.inr ⟨a,b⟩)
     ·exact .inr rfl
   ·rename_i hc;refine⟨q1,fun x=> ?_⟩;rw[q2,e2];constructor
    ·rintro(a|⟨a,b⟩)
     ·exact .inl a
     ·exact .inr ⟨.inl a,b⟩
    ·rintro(a|⟨a|rfl,b⟩)
     ·exact .inl a
     ·exact .inr ⟨a,b⟩
     ·exact absurd b hc
theorem zjc {c:ChD} {d:Int} {l:List Int} : ∀(j:Nat),j<=l.length->(upsTo c d l j).Nodup/\ ∀x,x∈upsTo c d l j↔x∈l.take j\/ ∃i∈l.take j,x∈upL c i/\0<=x/\aboveB c d x=true
 |0,_=>⟨List.nodup_nil,fun x=>by simp[upsTo]⟩
 | j+1,hj=>by
   obtain⟨k,hk⟩: ∃k,l[j]? =some k:=⟨l[j],List.getElem?_eq_getElem (by omega)⟩;obtain⟨q1,q2⟩:=zjc (c:=c) (d:=d) (l:=l) j (by omega);have e:upsTo c d l (j+1)=upTo c d (addU (upsTo c d l j) k) (upL c k) (upL c k).length:=za3 _ _ hk;have e2: ∀x,x∈l.take (j+1)↔x∈l.take j\/x=k:=fun x=>by rw[List.take_add_one,hk];simp
   obtain⟨p1,p2⟩:=zma (c:=c) (d:=d) (U:=upL c k) _ (Nat.le_refl _) (zf8 q1 k);rw[e];refine⟨p1,fun x=> ?_⟩;rw[p2,zkn,q2,List.take_length];simp only[e2];constructor
   ·rintro(((a|⟨i,a,b⟩)|rfl)|b)
    ·exact .inl (.inl a)
    ·exact .inr ⟨i, .inl a,b⟩
    ·exact .inl (.inr rfl)
    ·exact .inr ⟨k, .inr rfl,b⟩
   ·rintro((a|rfl)|⟨i,a|rfl,b⟩)
    ·exact .inl (.inl (.inl a))
    ·exact .inl (.inr rfl)
    ·exact .inl (.inl (.inr ⟨i,a,b⟩))
    ·exact .inr b
theorem zdX {c:ChD} {d:Int} {l:List Int} :(upsL c l d).Nodup/\ ∀x,x∈upsL c l d↔x∈l\/ ∃i∈l,x∈upL c i/\0<=x/\aboveB c d x=true:=by
 have:=zjc (c:=c) (d:=d) (l:=l) _ (Nat.le_refl _);rw[List.take_length]at this;exact this
def zjB (c:ChD) (l:List Int) (d:Int) (i:Nat):Bool:=l.contains (i:Int)||l.any fun k=>aboveB c (i:Int) k&&aboveB c d (i:Int)
def pathL (c:ChD) (l:List Int) (d:Int):List Nat:=(List.range c.states.length).filter (zjB c l d)
theorem zc9 {c:ChD} (h:Right c) {k i:Int} (ha:k∈upL c i) (h0:0<=k):inZ c k=true/\k<i:=by
 have:=ze8 h 40 i k ha
 have hi:inZ c i=true:=by
  cases hh:inZ c i with
  |true=>rfl
  |false=>rw[zbr hh]at ha;simp at ha
 have:=zag.1 hi;exact⟨zag.2 ⟨h0,by omega⟩,by omega⟩
theorem zjA {c:ChD} (h:Right c) {l:List Int} (hl: ∀x∈l,inZ c x=true) {d x:Int} :x∈zL (pathL c l d)↔x∈upsL c l d:=by
 rw[zdX.2];constructor
 ·intro hx;obtain⟨i,hi,rfl⟩:=List.mem_map.1 hx;obtain⟨_,hb⟩:=List.mem_filter.1 hi;unfold zjB at hb;rw[Bool.or_eq_true,List.any_eq_true]at hb;rcases hb with hb|⟨k,hk,hb⟩
  ·exact .inl (by simpa using hb)
  ·rw[Bool.and_eq_true]at hb;exact .inr ⟨k,hk,by simpa[aboveB]using hb.1,by omega,hb.2⟩
 ·intro hx
  have hz:inZ c x=true:=by
   rcases hx with hx|⟨i,_,h1,h2,_⟩
   ·exact hl x hx
   ·exact(zc9 h h1 h2).1
  have h3:=zag.1 hz;refine List.mem_map.2 ⟨x.toNat,List.mem_filter.2 ⟨List.mem_range.2 (by omega),?_⟩,by omega⟩;have e:((x.toNat:Nat):Int)=x:=by omega
  unfold zjB;rw[e,Bool.or_eq_true,List.any_eq_true];rcases hx with hx|⟨i,h0,h1,h2,h4⟩
  ·exact .inl (by simpa using hx)
  ·exact .inr ⟨i,h0,by rw[Bool.and_eq_true];exact⟨by simpa[aboveB]using h1,h4⟩⟩
end
section
open Go.RowKit
/-! Rising lists -/
def upB (l:List Int) (j:Nat):Bool:=(j==0)||decide (l.getD (j-1) 0<l.getD j 0)
def zed (l:List Int) (j:Nat):Bool:=(j==0)||decide (¬l.getD j 0<l.getD (j-1) 0)
def zdy (l:List Int):Bool:= !l.isEmpty&&(List.range l.length).all (upB l)
def zd3 (l:List Int):Bool:=(List.range l.length).all (zed l)
theorem zoi (l:List Int) (j:Nat) (hj:j<l.length):Lib.keeps l.toArray j=((j==0)||decide (l.getD j 0≠l.getD (j-1) 0)):=by
 unfold Lib.keeps
 have e: ∀k,k<l.length->l.toArray[k]! =l.getD k 0:=fun k hk=>by
  rw[getElem!_pos _ k (by simpa using hk),List.getD_eq_getElem?_getD,List.getElem?_eq_getElem hk];simp
 rw[e j hj,e (j-1) (by omega)];by_cases h:j=0<;>simp[h]
theorem znk (l:List Int):(Lib.compact l).length=l.length↔ ∀j,j<l.length->Lib.keeps l.toArray j=true:=by
 unfold Lib.compact Lib.compactUpTo;rw[List.length_map]
 conv=>lhs;rhs;rw[<-List.length_range (n:=l.length)]
 rw[List.length_filter_eq_length_iff];simp
theorem zvJ (l:List Int):(!l.isEmpty&&zd3 l&&decide ((Lib.compact l).length=l.length))=zdy l:=by
 unfold zdy zd3;rw[Bool.and_assoc]
 congr 1
 rw[Bool.eq_iff_iff,Bool.and_eq_true,decide_eq_true_eq,znk,List.all_eq_true,List.all_eq_true];simp only[List.mem_range];constructor
 ·rintro⟨h1,h2⟩ j hj;have a:=h1 j hj;have b:=h2 j hj;rw[zoi l j hj]at b;unfold upB;unfold zed at a;by_cases h0:j=0
  ·simp[h0]
  ·simp[h0]at a b |-;omega
 ·intro h;refine⟨fun j hj=> ?_,fun j hj=> ?_⟩
  ·have a:=h j hj;unfold upB at a;unfold zed;by_cases h0:j=0
   ·simp[h0]
   ·simp[h0]at a |-;omega
  ·have a:=h j hj;rw[zoi l j hj];unfold upB at a;by_cases h0:j=0
   ·simp[h0]
   ·simp[h0]at a |-;omega
theorem zeB {l:List Int} (h:zdy l=true):l.Nodup:=by
 unfold zdy at h;rw[Bool.and_eq_true,List.all_eq_true]at h
 have key: ∀i d,i+d+1<l.length->l.getD i 0<l.getD (i+d+1) 0:=fun i d=>by
  induction d with
  | zero=>
    intro hd;have:=h.2 (i+1) (List.mem_range.2 (by omega));unfold upB at this;simpa using this
  | succ d ih=>
    intro hd;have h1:=ih (by omega);have:=h.2 (i+d+1+1) (List.mem_range.2 (by omega));unfold upB at this;have h2:l.getD (i+d+1) 0<l.getD (i+d+1+1) 0:=by simpa using this
    rw[show i+(d+1)+1=i+d+1+1 by omega];omega
 rw[List.nodup_iff_pairwise_ne,List.pairwise_iff_getElem];intro i j hi hj hij e;have:=key i (j-i-1) (by omega);rw[show i+(j-i-1)+1=j by omega]at this;simp[List.getD_eq_getElem?_getD,List.getElem?_eq_getElem hi,List.getElem?_eq_getElem hj,e]at this
/-! Deep memories -/
def zbj (c:ChD) (l:List Int) (i:Int):Bool:=match at_ c i with
 |some s=> !(((s.kind==1)&&decide (1<manyI l (kidsL c i true)))||((s.kind==4)||(s.kind==5)))
 |none=>false
def zcr (c:ChD) (parent i:Int):Bool:=aboveB c parent i&&(kidsL c i true).isEmpty
def deepA (c:ChD) (parent:Int) (l:List Int):List Int:=upsL c l parent++[parent]
def deepB (c:ChD) (parent:Int) (l:List Int):Bool:=zdy l&&l.all (zcr c parent)&&decide ((growL c (deepA c parent l)).length=(deepA c parent l).length)&&(growL c (deepA c parent l)).all (zbj c (growL c (deepA c parent l)))
def zbw (c:ChD) (parent i:Int):Bool:=aboveB c parent i&&(match at_ c i with|some s=> !zaq s|none=>false)&&(kidsL c i true).isEmpty
def zbx (c:ChD) (l:List Int) (i:Int):Bool:=match at_ c i with
 |some s=> !(((s.kind==1)&&decide (manyI l (kidsL c i true)≠min (kidsL c i true).length 1))||((s.kind==2)&&decide (manyI l (kidsL c i true)≠(kidsL c i true).length)))
 |none=>false
def deepRA (c:ChD) (parent:Int) (l:List Int):List Int:=zL (pathL c l parent)++[parent]
def zlR (c:ChD) (parent:Int) (l:List Int):Bool:=zdy l&&l.all (zbw c parent)&&(deepRA c parent l).all (zbx c (deepRA c parent l))
theorem zll (c:ChD): ∀(f:Nat) (l t:List Int),∃a,zeK c f l t=l++a
 |0,l,t=>⟨[],by simp[zeK]⟩
 |f+1,l,[]=>⟨[],by simp[zeK]⟩
 | f+1,l,i::r=>by
   obtain⟨a,e⟩:=zll c f (l++addK c l i) (r++addK c l i);exact⟨addK c l i++a,by unfold zeK;rw[e,List.append_assoc]⟩
theorem ze1 (c:ChD): ∀(f:Nat) (l t:List Int),l.Nodup->(zeK c f l t).Nodup
 |0,l,t,h=>h
 |f+1,l,[],h=>h
 | f+1,l,i::r,h=>by
   unfold zeK;refine ze1 c f _ _ ?_;rw[List.nodup_append];refine⟨h,zcE c l i,fun x hx y hy e=> ?_⟩;subst e;have:=(List.mem_filter.1 hy).2;simp[hx]at this
theorem zsl {c:ChD} (h:Full c) {l:List Int} (hn:l.Nodup):(growL c l).length=l.length↔ ∀x,Gr c l x->x∈l:=by
 obtain⟨a,e⟩:=zll c (missL c l+l.length) l l;have e:growL c l=l++a:=e;constructor
 ·intro hl x hx;have:a=[]:=List.eq_nil_of_length_eq_zero (by rw[e,List.length_append]at hl;omega);rw[this,List.append_nil]at e;rw[<-e];exact(zc5 h hn).2 hx
 ·intro hx;have h1:=(ze1 c (missL c l+l.length) l l hn).length_le_of_subset (l₂:=l) fun x hh=>hx x ((zc5 h hn).1 hh);have h1:(growL c l).length<=l.length:=h1;rw[e,List.length_append]at h1 |-;omega
theorem zdo {l l':List Int} (h: ∀x,x∈l↔x∈l') (ks:List Nat):manyI l ks=manyI l' ks:=by
 unfold manyI
 congr 1
 apply List.filter_congr;intro k _;rw[Bool.eq_iff_iff,List.contains_iff_mem,List.contains_iff_mem];exact h _
theorem zje {c:ChD} (h:Full c): ∀(n:Nat) (i k:Int),i<n->k∈upL c i->0<=k->zav c k=true
 | 0,i,k,hn,hk,h0=>by
   cases hh:inZ c i with
   |true=>have:=zag.1 hh;omega
   |false=>rw[zbr hh]at hk;simp at hk
 | n+1,i,k,hn,hk,h0=>by
   cases hh:inZ c i with
   |false=>rw[zbr hh]at hk;simp at hk
   | true=>
     rw[zbF h.toRight hh]at hk;have hp:=zb0 h.toRight hh;rcases hk with rfl|hk
     ·obtain⟨j,s,rfl,hs,_⟩:=zb9 hh;have:=h.st j s hs;simp only[zbm,Bool.and_eq_true]at this;have:=this.1.1.1.2;rw[zck hs]at h0 |-;simp only[zbz,Bool.or_eq_true,Bool.and_eq_true,beq_iff_eq]at this;rcases this with e|⟨_,e⟩
      ·omega
      ·exact e
     ·exact zje h n _ k (by omega) hk h0
theorem zdm {c:ChD} {i:Int} (h:zav c i=true): ∃s,at_ c i=some s/\(s.kind=1\/s.kind=2):=by
 unfold zav at h;split at h
 ·rename_i s hs;refine⟨s,hs,?_⟩;unfold zcW at h;simpa using h
 ·cases h
theorem zfD {c:ChD} (h:Full c) {i:Int} {s:StD} (hs:at_ c i=some s):(s.kind=1/\(kidsL c i true=[]\/(0<=iniZ c i/\iniZ c i∈kidZ c i)))\/(s.kind=2/\kidsL c i true≠[])\/(s.kind=3/\kidsL c i true=[])\/((s.kind=4\/s.kind=5)/\kidsL c i true=[]):=by
 have hz:0<=i:=by
  unfold at_ at hs;split at hs
  ·assumption
  ·cases hs
 obtain⟨k,rfl⟩: ∃k:Nat,i=k:=⟨i.toNat,by omega⟩;have he:iniZ c (k:Int)=s.initial:=by unfold iniZ;rw[hs]
 rw[zaM]at hs;rcases h.cases hs with⟨e,⟨e2,_⟩|⟨j,hj,e2⟩⟩|⟨e,_,e2,_⟩|⟨e,e2,_⟩|⟨e,e2,_⟩
 ·exact .inl ⟨e, .inl e2⟩
 ·exact .inl ⟨e, .inr (by rw[he,e2];exact⟨by omega,List.mem_map.2 ⟨j,hj,rfl⟩⟩)⟩
 ·exact .inr (.inl ⟨e,e2⟩)
 ·exact .inr (.inr (.inl ⟨e,zjE e2⟩))
 ·exact .inr (.inr (.inr ⟨e,zjE e2⟩))
theorem zaV {c:ChD} {i:Int} {s:StD} (hs:at_ c i=some s):zaD c i=(s.kind==1):=by unfold zaD;rw[hs]
theorem zee {l:List Int} {ks:List Nat} :manyI l ks=ks.length↔ ∀k∈zL ks,k∈l:=by
 unfold manyI;rw[List.length_filter_eq_length_iff];constructor
 ·intro h k hk;obtain⟨j,hj,rfl⟩:=List.mem_map.1 hk;simpa using h j hj
 ·intro h k hk;simpa using h k (List.mem_map.2 ⟨k,hk,rfl⟩)
theorem zhY {c:ChD} (h:Full c) {parent:Int} (hp:zav c parent=true) (l:List Int):deepB c parent l=zlR c parent l:=by
 unfold deepB zlR;cases hr:zdy l with
 |false=>rfl
 |true=>
 simp only[Bool.true_and];by_cases hleaf:l.all (zcr c parent)=true
 ·rw[hleaf,Bool.true_and]
  have hz: ∀x∈l,aboveB c parent x=true/\kidsL c x true=[]/\inZ c x=true:=fun x hx=>by
   have:=List.all_eq_true.1 hleaf x hx;unfold zcr at this;rw[Bool.and_eq_true]at this;refine⟨this.1,by simpa using this.2,?_⟩;cases hh:inZ c x with
   |true=>rfl
   | false=>
     have:=this.1;unfold aboveB at this;rw[zbr hh]at this;simp at this
  obtain⟨sp,hsp,hk12⟩:=zdm hp
  have hp0:0<=parent:=by
   unfold at_ at hsp;split at hsp
   ·assumption
   ·cases hsp
  obtain⟨un,um⟩:=zdX (c:=c) (d:=parent) (l:=l)
  have habove: ∀x∈upsL c l parent,aboveB c parent x=true:=fun x hx=>by
   rcases (um x).1 hx with hx|⟨_,_,_,_,hx⟩
   ·exact(hz x hx).1
   ·exact hx
  have hnp:parent∉upsL c l parent:=fun hh=>by
   have:=habove _ hh;unfold aboveB at this;have:=(ze8 h.toRight 40 parent parent (List.contains_iff_mem.1 this)).2;omega
  have hnd:(deepA c parent l).Nodup:=by
   unfold deepA;rw[List.nodup_append];refine⟨un,by simp,fun x hx y hy e=> ?_⟩;rw[List.mem_singleton.1 hy]at e;rw[e]at hx;exact hnp hx
  have hmem: ∀x,x∈deepRA c parent l↔x∈deepA c parent l:=fun x=>by
   unfold deepRA deepA;rw[List.mem_append,List.mem_append,zjA h.toRight fun x hx=>(hz x hx).2.2]
  have hin: ∀x∈deepA c parent l,x∈l\/zav c x=true:=fun x hx=>by
   rcases List.mem_append.1 hx with hx|hx
   ·rcases (um x).1 hx with hx|⟨i,_,h1,h2,_⟩
    ·exact .inl hx
    ·exact .inr (zje h 40 i x (by
      cases hh:inZ c i with
      |true=>have:=zag.1 hh;have:=h.few;omega
      |false=>rw[zbr hh]at h1;simp at h1) h1 h2)
   ·rw[List.mem_singleton.1 hx];exact .inr hp
  have hla: ∀x∈l,x∈deepA c parent l:=fun x hx=>List.mem_append_left _ ((um x).2 (.inl hx))
  have hat: ∀x∈deepA c parent l,∃s,at_ c x=some s:=fun x hx=>by
   rcases hin x hx with hx|hx
   ·obtain⟨_,s,_,_,e⟩:=zb9 (hz x hx).2.2;exact⟨s,e⟩
   ·obtain⟨s,e,_⟩:=zdm hx;exact⟨s,e⟩
  rw[Bool.eq_iff_iff,Bool.and_eq_true,decide_eq_true_eq,zsl h hnd,Bool.and_eq_true];constructor
  ·rintro⟨hc,hcl⟩
   have gm: ∀x,x∈growL c (deepA c parent l)↔x∈deepA c parent l:=fun x=>by
    rw[zc5 h hnd];exact⟨hc x, .base⟩
   have hcl: ∀x∈deepA c parent l,zbj c (deepA c parent l) x=true:=fun x hx=>by
    have:=List.all_eq_true.1 hcl x ((gm x).2 hx);unfold zbj at this |-;obtain⟨s,hs⟩:=hat x hx;rw[hs]at this |-;rw[zdo gm]at this;exact this
   refine⟨List.all_eq_true.2 fun x hx=> ?_,List.all_eq_true.2 fun x hx=> ?_⟩
   ·have:=hcl x (hla x hx);unfold zbj at this;unfold zbw;obtain⟨s,hs⟩:=hat x (hla x hx);rw[hs]at this |-;simp only at this |-;rw[(hz x hx).1,(hz x hx).2.1];unfold zaq;simp only[Bool.not_or,Bool.and_eq_true]at this;simp[this.2.1,this.2.2]at*
   ·have hx:=(hmem x).1 hx;obtain⟨s,hs⟩:=hat x hx;have h1:=hcl x hx;unfold zbj at h1;unfold zbx;rw[hs]at h1 |-;simp only at h1 |-;rw[zdo hmem];rcases zfD h hs with⟨e,e2⟩|⟨e,e2⟩|⟨e,e2⟩|⟨e,e2⟩
    ·have hle:manyI (deepA c parent l) (kidsL c x true)<=1:=by
      rw[e]at h1;simp at h1;exact h1
     have:manyI (deepA c parent l) (kidsL c x true)=min (kidsL c x true).length 1:=by
      rcases e2 with e2|⟨e2,e3⟩
      ·rw[e2];rfl
      ·have hlen:0< (kidsL c x true).length:=by
        cases hq:kidsL c x true with
        |nil=>rw[kidZ,hq]at e3;simp at e3
        |cons=>simp
       have hpos:manyI (deepA c parent l) (kidsL c x true)≠0:=fun h0=>by
        have hno:=zfk.1 h0;exact hno _ e3 (hc _ (.ini (.base hx) (by rw[zaV hs,e];rfl) hno e2))
       omega
     simp[e,this]
    ·have:manyI (deepA c parent l) (kidsL c x true)=(kidsL c x true).length:=zee.2 fun k hk=>hc k (.par (.base hx) (by rw[zaV hs,e];rfl) hk);simp[e,this]
    ·simp[e]
    ·rcases e with e|e<;>simp[e]
  ·rintro⟨hl2,hcd⟩
   have hcd: ∀x∈deepA c parent l,zbx c (deepA c parent l) x=true:=fun x hx=>by
    have:=List.all_eq_true.1 hcd x ((hmem x).2 hx);unfold zbx at this |-;obtain⟨s,hs⟩:=hat x hx;rw[hs]at this |-;rw[zdo hmem]at this;exact this
   have hgr: ∀x,Gr c (deepA c parent l) x->x∈deepA c parent l:=fun x g=>by
    induction g with
    |base h=>exact h
    | ini g hpp hn h0 ih=>
      rename_i p
      exfalso
      obtain⟨s,hs⟩:=hat p ih;have h1:=hcd p ih;unfold zbx at h1;rw[hs]at h1;rw[zaV hs]at hpp;have hk:s.kind=1:=by simpa using hpp
      have hini:=zfr h (by rw[zaV hs,hk];rfl) h0
      have hlen:0< (kidsL c p true).length:=by
       cases hq:kidsL c p true with
       |nil=>rw[kidZ,hq]at hini;simp at hini
       |cons=>simp
      have h0:=zfk.2 hn;simp only[hk,h0]at h1;simp at h1;omega
    | par g hpp hk ih=>
      rename_i p k;obtain⟨s,hs⟩:=hat p ih;have h1:=hcd p ih;unfold zbx at h1;rw[hs]at h1;rw[zaV hs]at hpp;rcases zfD h hs with⟨e,_⟩|⟨e,_⟩|⟨_,e⟩|⟨_,e⟩
      ·rw[e]at hpp;cases hpp
      ·simp[e]at h1;exact zee.1 h1 k hk
      ·rw[kidZ,e]at hk;simp at hk
      ·rw[kidZ,e]at hk;simp at hk
   have gm: ∀x,x∈growL c (deepA c parent l)↔x∈deepA c parent l:=fun x=>by
    rw[zc5 h hnd];exact⟨hgr x, .base⟩
   refine⟨hgr,List.all_eq_true.2 fun x hx=> ?_⟩;have hx:=(gm x).1 hx;obtain⟨s,hs⟩:=hat x hx;have h1:=hcd x hx;unfold zbx at h1;unfold zbj;rw[hs]at h1 |-;simp only at h1 |-;rw[zdo gm]
   have hk45:s.kind≠4/\s.kind≠5:=by
    rcases hin x hx with hx|hx
    ·have:=List.all_eq_true.1 hl2 x hx;unfold zbw at this;rw[hs]at this;simp only[zaq,Bool.and_eq_true,Bool.not_or]at this;have:=this.1.2;exact⟨by simpa using this.1,by simpa using this.2⟩
    ·obtain⟨s',e,e2⟩:=zdm hx;rw[hs]at e;cases e;omega
   have hle:s.kind=1->manyI (deepA c parent l) (kidsL c x true)<=1:=fun e=>by
    simp[e]at h1;omega
   by_cases e:s.kind=1
   ·have:=hle e;simp[e];omega
   ·simp[e,hk45.1,hk45.2]
 ·have hleaf:l.all (zcr c parent)=false:=by simpa using hleaf
  rw[hleaf]
  have:l.all (zbw c parent)=false:=by
   rw[List.all_eq_false]at hleaf |-;obtain⟨x,hx,e⟩:=hleaf;refine⟨x,hx,fun hh=>e ?_⟩;unfold zbw at hh;unfold zcr;simp only[Bool.and_eq_true]at hh |-;exact⟨hh.1.1,hh.2⟩
  rw[this];rfl
/-! Memories -/
abbrev MemD:=Int×List Int
def memB (c:ChD) (m:MemD):Bool:=match at_ c m.1 with
 |some s=>if s.kind=4 then decide (m.2.length=1)&&(kidZ c s.parent).contains (m.2.getD 0 0) else(s.kind==5)&&deepB c s.parent m.2
 |none=>false
def zhr (c:ChD) (l:List MemD) (j:Nat):Bool:=match l[j]? with
 |some m=>memB c m&&((j==0)||decide ((l.getD (j-1) (0,[])).1<m.1))
 |none=>true
def zbd (c:ChD) (l:List MemD):Bool:=(List.range l.length).all (zhr c l)
end
section
open Go.RowKit Go.ChangeShapes Go.WideShapes Go.ChangeAt
def mmAV (m:MemD):List AV:=[I m.1, .seq 1 (m.2.map intAV)]
def zwJ (m:MemD):Prop:=m.2.length<=maxLen
theorem zs8:prog.cellsOf 27=1:=by kernel_rfl
theorem zwQ:prog.cellsOf 130=2:=by kernel_rfl
section
variable {H:Type} {enc:TypeId×Value->H} {w:World} {base:Nat} {spare:Nat->Bool} {held:Bool}
theorem open_int1 (m:Nat) (cs:List Value) (y:DataW H×List MemPlace) (h:DataW.trod enc prog w base spare held m 3 cs=some y): ∃a:Int,RE w intAV (fun _=>True) cs a:=by
 obtain⟨n,rfl, -, -⟩:=DataW.trod_int Tryz.underlying3 h;exact⟨n,⟨⟨rfl, .lit _⟩,trivial⟩,trivial⟩
theorem RVs.app {S:Nat->Nat->Prop} {w:World} : ∀ {vs us:List Value} {cs ds:List AV},RVs S w vs cs->RVs S w us ds->RVs S w (vs++us) (cs++ds)
 |[],_,[],_,_,h=>h
 |_::_,_,_::_,_,h1,h2=>⟨h1.1,RVs.app h1.2 h2⟩
end
end
section
open Go.RowKit
theorem i64m (a b:Nat) (h:b<=a) (h':a<9223372036854775808):IntKind.i64.wrap ((a:Int)-(b:Int))=((a-b:Nat):Int):=by rw[zaw (by omega) (by omega)];omega
abbrev ints34 (l:List Int):AV:= .seq 1 (l.map intAV)
def tmAV (t:List UInt8×Int):List AV:=[Sg t.1,I t.2]
def inAV (r:Rc):List AV:=[ints34 r.active,ints34 r.vars, .seq 2 (r.mem.map mmAV), .seq 2 (r.timers.map tmAV),B r.over]
theorem zcn {α:Type} {l:List α} {i:Nat} {x d:α} (h:l[i]? =some x):l.getD i d=x:=by rw[List.getD_eq_getElem?_getD,h];rfl
theorem zwB {α:Type} {l:List α} {i:Nat} {x:α} (h:l[i]? =some x):x∈l:=List.mem_of_getElem? h
theorem zkm {i:Nat} {f:Nat->Bool} (ha: ∀j,j<i->f j=true) (h:f i=true): ∀j,j<i+1->f j=true:=fun j hj=>by
 by_cases e:j=i
 ·rw[e];exact h
 ·exact ha j (by omega)
theorem zhu: ∀a b:List UInt8,Op.bytesLess b a= !(Op.bytesLess a b||a==b)
 |[],[]=>rfl
 |[],_::_=>rfl
 |_::_,[]=>rfl
 | x::a,y::b=>by
   have ih:=zhu a b;simp only[Op.bytesLess,List.cons_beq_cons,ih];by_cases h:x=y
   ·subst h;simp
   ·have h': ¬y=x:=fun e=>h e.symm;have e1:(x==y)=false:=by simpa using h
    have e2:(y==x)=false:=by simpa using h'
    have e3:decide (y<x)= !decide (x<y):=by
     rw[Bool.eq_iff_iff];simp[UInt8.lt_iff_toNat_lt];have:x.toNat≠y.toNat:=fun e=>h (UInt8.toNat_inj.1 e);omega
    simp[e1,e2,e3]
end
section
open Go.RowKit
end
section
open Go.RowKit
def Turned (s s2:St):Prop:= ∀(x:Ctx) (a:Act) (w:World) (m:Mem),Sim x s a w m-> ∃m',Sim x s2 a w m'
theorem Turned.refl (s:St):Turned s s:=fun _ _ _ m h=>⟨m,h⟩
theorem Turned.trans {s s2 s3:St} (h:Turned s s2) (k:Turned s2 s3):Turned s s3:=fun x a w m hh=>by
 obtain⟨m',h2⟩:=h x a w m hh;exact k x a w m' h2
theorem Turned.less {s s2:St} (h:Less s s2):Turned s s2:=fun _ _ _ m hh=>⟨m,hh.less h⟩
theorem Turned.ren {s:St} (r r2:Nat) (row:Row) (hne:r2≠r) (hr:s.rows r=some row) (hr2:s.rows r2=none) (hrz:row.sz≠0) (hp:row.pure=true):Turned s (zdk s r r2 row):=fun _ _ _ _ hh=>⟨_,hh.ren r r2 row hne hr hr2 hrz hp⟩
theorem Turned.sees {s:St} (L:List (Nat×Nat×AV)) (hL:zi8 s L):Turned s (seenSt s L):=fun _ _ _ m hh=>by
 obtain⟨S',k⟩:=hh.sees L hL;exact⟨_,k⟩
theorem Turned.mapSee {s:St} (r:Nat) (row:Row) (hr:s.rows r=some row) (hsz:row.sz=0) (hb:row.es.all (·.all AV.bare)=true):Turned s (zpz s r (.fmap row.es)):=fun _ _ _ m hh=>by
 obtain⟨S',k⟩:=hh.mapSee r row hr hsz hb;exact⟨_,k⟩
theorem Turned.head {s:St} {F:List (Nat×AV)} {R:List (Nat×Row)} (hF:zer s F) (hR:zdP s R):Turned s (Go.Proofs.YtbpmkofnfgdegaaGreatDoor.head F R s.vs s.esc):= .less (zbK hF hR)
section
variable {P:Program} {env:Env} {nt:Nat} {Q:Exit->St->Prop} {s:St}
theorem zcA {c:Code} (h:awp P env nt c (fun e s1=> ∃s2,Turned s1 s2/\Q e s2) s):awp P env nt c Q s:=fun ro x he hn a w m hS=>by
 refine wpIn_mono (h ro x he hn a w m hS) ?_;rintro e a' w' ⟨s',m',⟨s2,h1,h2⟩,h3⟩;obtain⟨m2,h4⟩:=h1 _ _ _ _ h3;exact⟨s2,m2,h2,h4⟩
theorem zdN {c:Code} {s2:St} (ht:Turned s s2) (h:awp P env nt c Q s2):awp P env nt c Q s:=fun ro x he hn a w m hS=>by
 obtain⟨m2,h4⟩:=ht _ _ _ _ hS;exact h ro x he hn a w m2 h4
end
def rowsAt:Nat->List Row->List (Nat×Row)
 |_,[]=>[]
 |b,r::l=>(b,r)::rowsAt (b+1) l
theorem zgh {t:Nat} : ∀ {l:List Row} {b:Nat},zax (rowsAt b l) t=if b<=t then l[t-b]? else none
 |[],b=>by simp[rowsAt,zax]
 | r::l,b=>by
   simp only[rowsAt,zax,zgh (l:=l)];by_cases h:t=b
   ·subst h;simp
   ·rw[if_neg h];by_cases h2:b<=t
    ·rw[if_pos h2,if_pos (by omega),show t-b=(t-(b+1))+1 by omega,List.getElem?_cons_succ]
    ·rw[if_neg h2,if_neg (by omega)]
theorem holdR_rowsAt {s:St} : ∀ {l:List Row} {b:Nat},(∀q r,l[q]? =some r->s.rows (q+b)=some r)->zdP s (rowsAt b l)
 |[],b,h=>trivial
 | r::l,b,h=>⟨by have:=h 0 r rfl; rwa [Nat.zero_add] at this,holdR_rowsAt fun q r' hq=>by
    have:=h (q+1) r' (by simpa using hq)
    rwa [show q+1+b=q+(b+1) by omega]at this⟩
theorem zfK {p:Nat×Row} : ∀ {l:List Row} {b:Nat},p∈rowsAt b l-> ∃q,l[q]? =some p.2/\p.1=q+b
 |[],b,h=>by simp[rowsAt]at h
 | r::l,b,h=>by
   simp only[rowsAt,List.mem_cons]at h;rcases h with rfl|h
   ·exact⟨0,rfl,by simp⟩
   ·obtain⟨q,h1,h2⟩:=zfK h;exact⟨q+1,by simpa using h1,by omega⟩
end
section
open Go.RowKit
theorem zbP (env:Env) (es:List (List AV)) (hl:es.length<=4096):Con prog env 70 [.seq 1 es] (.own 3 1 es):=by
 cases es with
 | nil=>
   refine Con.empty fun A cap=> ?_;cases A with
   | none=>
     refine qw func70 call70 ntmps70 results70 ?_;repeat refine st0 ?_
     (refine zal ?_;refine⟨_,(by show (zaG _ _ _).run _=some _;simp only[go_sem];rfl),?_⟩)
     exact RStr.own_nil _ _ (by decide)
   | some A=>
     refine qf func70 call70 ntmps70 results70 ?_;repeat refine st0 ?_
     exact aR0
 | cons d l=>
   have g1:Fits ((l.length+1)) 8:=zae (by simpa using hl) (by omega);refine qf func70 call70 ntmps70 results70 ?_;have F:=g1;repeat refine st ?_
   exact aR
theorem ziX (env:Env) (es:List (List AV)) (hl:es.length<=4096):Con prog env 108 [.seq 2 es] (.own 165 2 es):=by
 cases es with
 | nil=>
   refine Con.empty fun A cap=> ?_;cases A with
   | none=>
     refine qw func108 call108 ntmps108 results108 ?_;repeat refine st0 ?_
     (refine zal ?_;refine⟨_,(by show (zaG _ _ _).run _=some _;simp only[go_sem];rfl),?_⟩)
     exact RStr.own_nil _ _ (by decide)
   | some A=>
     refine qf func108 call108 ntmps108 results108 ?_;repeat refine st0 ?_
     exact aR0
 | cons d l=>
   have g1:Fits ((l.length+1)) 16:=zae (by simpa using hl) (by omega);refine qf func108 call108 ntmps108 results108 ?_;have F:=g1;repeat refine st ?_
   exact aR
theorem zp6 (env:Env) (es:List (List AV)) (hl:es.length<=4096):Con prog env 106 [.seq 2 es] (.own 110 2 es):=by
 cases es with
 | nil=>
   refine Con.empty fun A cap=> ?_;cases A with
   | none=>
     refine qw func106 call106 ntmps106 results106 ?_;repeat refine st0 ?_
     (refine zal ?_;refine⟨_,(by show (zaG _ _ _).run _=some _;simp only[go_sem];rfl),?_⟩)
     exact RStr.own_nil _ _ (by decide)
   | some A=>
     refine qf func106 call106 ntmps106 results106 ?_;repeat refine st0 ?_
     exact aR0
 | cons d l=>
   have g1:Fits ((l.length+1)) 24:=zae (by simpa using hl) (by omega);refine qf func106 call106 ntmps106 results106 ?_;have F:=g1;repeat refine st ?_
   exact aR
/-! Few of all -/
def few4 (l:List ActD):Prop:=l.length<=4096/\ ∀a∈l,a.code.length<=4096
structure Small (c:ChD):Prop where
 vars:c.vars.length<=4096
 sts:c.states.length<=4096
 trs:c.trans.length<=4096
 st: ∀s∈c.states,few4 s.inn/\few4 s.out
 tr: ∀t∈c.trans,t.guard.length<=4096/\few4 t.acts
theorem zlV {l:List OpD} {vs ss:Int} (h:zbQ l vs ss=true):l.length<=32:=by
 unfold zbQ zeM at h;split at h
 ·simp at h
 ·omega
theorem zh6 {nv ns:Int} {l:List ActD} (h:zcZ nv ns l=true):few4 l:=by
 unfold zcZ at h;rw[Bool.and_eq_true,decide_eq_true_eq,List.all_eq_true]at h;refine⟨by omega,fun a ha=> ?_⟩;have hb:=h.2 a ha;unfold actB at hb;by_cases e:a.code=[]
 ·rw[e];simp
 ·have:zbQ a.code nv ns=true:=by
   revert hb
   cases zbQ a.code nv ns<;>simp[e]
  have:=zlV this;omega
theorem zjn {c:ChD} (h:(chk c).1=0):Small c:=by
 have hr:=znP h;unfold chk at h;split at h
 ·simp at h
 rename_i h1;split at h
 ·simp at h
 split at h
 ·simp at h
 split at h
 ·simp at h
 rename_i h3;split at h
 ·simp at h
 split at h
 ·simp at h
 rename_i h5;refine⟨by omega,by omega,by omega,fun s hs=> ?_,fun t ht=> ?_⟩
 ·obtain⟨k,hk⟩:=List.mem_iff_getElem?.1 hs;have:=zbf h3 k (List.getElem?_eq_some_iff.1 hk).1;unfold zgx at this;rw[hk]at this;simp only[zbm,Bool.and_eq_true]at this;exact⟨zh6 this.1.2,zh6 this.2⟩
 ·obtain⟨k,hk⟩:=List.mem_iff_getElem?.1 ht;have:=zbf h5 k (List.getElem?_eq_some_iff.1 hk).1;unfold zkd at this;rw[hk]at this;simp only[zch,Bool.and_eq_true,Bool.or_eq_true]at this;refine⟨?_,zh6 this.1.2⟩;rcases this.1.1.2 with e|e
  ·have:t.guard=[]:=by simpa using e
   rw[this];simp
  ·have:=zlV e;omega
theorem zen (env:Env) (l:List ActD) (hl:few4 l):Con prog env 107 [actsAV l] (.own 156 4 (l.map zbl)):=by
 have h1:=hl.1;refine qf func107 call107 ntmps107 results107 ?_;repeat refine st0 ?_
 refine zap 3 3 156 4 ?_;refine zab (D:=Nat) (fun j vs=>[(3, .row 3 (vs 3)),(6,actsAV l),(7,I l.length),(8,I j)]) (fun j _=>[(3,⟨4,(l.take j).map zbl,156,true⟩)]) (fun j _ esc=>j<=l.length/\esc 3=false) (fun j=>l.length-j) 0 ?_ ?_ ?_ ?_
 ·exact⟨Nat.zero_le _,rfl⟩
 ·exact qe0
 ·exact qe0
 rintro j ws esc ⟨hj,e0⟩;by_cases hlt:j<l.length
 ·obtain⟨a,ha⟩:=gE hlt;have g1:=nlt hlt;have g2:=zaa hlt (by omega);have f0:=ziX env (a.code.map opAV) (by rw[List.length_map];exact hl.2 a (List.mem_of_getElem? ha));have htl:(l.take j).length=j:=by rw[List.length_take];omega
  have hf:Fits (j+1) 56:=zae (by omega) (by omega);have htk:l.take (j+1)=l.take j++[a]:=by rw[List.take_add_one,ha];rfl
  have F:=ai7 zbl.eq_1 g1 g2 ha htl hf e0;repeat refine tz1 f0 ?_
  refine⟨j+1,⟨hlt,by simp only[go_sem,e0]⟩,?_,?_,by omega⟩
  ·exact qe
  ·have F:=ai3 zbl.eq_1 htk @List.map_append.{0,0};exact qe
 ·obtain rfl:j=l.length:=by omega
  have g1:=nl l.length;have hta:l.take l.length=l:=List.take_length;have F:=ai3 g1 hta e0;repeat refine st ?_
  exact aR
theorem zhl (env:Env) (c:ChD) (hs:Small c):Con prog env 58 [.agg (chAV c)] (.agg (chAV c)):=by
 have hn1:=hs.sts;have hn2:=hs.trs;have f0:=zp6 env (c.vars.map zdW) (by rw[List.length_map];exact hs.vars);refine qf func58 call58 ntmps58 results58 ?_;have F:=chAV.eq_1;repeat refine tz1 f0 ?_
 refine nC 3 9000 0 3 72 6 ?_;refine nC 3 9001 0 4 52 5 ?_
 refine zab (D:=Nat) (fun j vs=>[(1, .loc 1 (vs 1) 0 0),(2, .loc 2 (vs 2) 0 0),(3, .loc 3 (vs 3) 0 0),(17,stsAV c.states),(18,I c.states.length),(19,I j)])
  (fun j vs=>[(1,⟨5,[chAV c],26,false⟩),(2,⟨5,[[Sg [],I 0,nilS,nilS,nilS]],26,false⟩),(3,⟨5,[[Sg c.name,I c.initial, .row 14 (vs 14), .row 9000 (vs 9000), .row 9001 (vs 9001)]],26,false⟩),(14,⟨2,c.vars.map zdW,110,true⟩),(9000,⟨6,(c.states.take j).map stAV,72,true⟩),(9001,⟨5,[],52,true⟩)])
  (fun j _ esc=>j<=c.states.length/\esc 2=false/\esc 3=false/\esc 14=false/\esc 9000=false/\esc 9001=false) (fun j=>c.states.length-j) 0 ?_ ?_ ?_ ?_
 ·refine⟨Nat.zero_le _,?_,?_,?_,?_,?_⟩<;>simp only[go_sem]
 ·exact qe
 ·have F:=chAV.eq_1;exact qe
 rintro j ws esc ⟨hj,e0,e1,e2,e3,e4⟩;by_cases hlt:j<c.states.length
 ·obtain⟨s,hss⟩:=gE hlt;have g1:=nlt hlt;have g2:=zaa hlt (by omega);have f1:=zen env s.inn (hs.st s (List.mem_of_getElem? hss)).1;have f2:=zen env s.out (hs.st s (List.mem_of_getElem? hss)).2;have htl:(c.states.take j).length=j:=by rw[List.length_take];omega
  have hf:Fits (j+1) 88:=zae (by omega) (by omega);have htk:c.states.take (j+1)=c.states.take j++[s]:=by rw[List.take_add_one,hss];rfl
  have F:=ai12 chAV.eq_1 stAV.eq_1 g1 g2 hss htl hf e0 e1 e2 e3 e4;repeat refine tz2 f1 f2 ?_
  refine⟨j+1,⟨hlt,?_,?_,?_,?_,?_⟩,?_,?_,by omega⟩;all_goals (first|(show _=false;simp only[go_sem,e0,e1,e2,e3,e4];done)|skip)
  ·exact qe
  ·have F:=ai9 chAV.eq_1 stAV.eq_1 htk @List.map_append.{0,0} e0 e1 e2 e3 e4;exact qe
 obtain rfl:j=c.states.length:=by omega
 have g1:=nl c.states.length;have hta:c.states.take c.states.length=c.states:=List.take_length;have F:=ai8 chAV.eq_1 g1 hta e0 e1 e2 e3 e4;repeat refine st ?_
 refine zab (D:=Nat) (fun j vs=>[(1, .loc 1 (vs 1) 0 0),(2, .loc 2 (vs 2) 0 0),(3, .loc 3 (vs 3) 0 0),(39,trsAV c.trans),(40,I c.trans.length),(41,I j)])
  (fun j vs=>[(1,⟨5,[chAV c],26,false⟩),(2,⟨5,[[Sg [],I 0,nilS,nilS,nilS]],26,false⟩),(3,⟨5,[[Sg c.name,I c.initial, .row 14 (vs 14), .row 9000 (vs 9000), .row 9001 (vs 9001)]],26,false⟩),(14,⟨2,c.vars.map zdW,110,true⟩),(9000,⟨6,c.states.map stAV,72,true⟩),(9001,⟨5,(c.trans.take j).map trAV,52,true⟩)])
  (fun j _ esc=>j<=c.trans.length/\esc 2=false/\esc 3=false/\esc 14=false/\esc 9000=false/\esc 9001=false) (fun j=>c.trans.length-j) 0 ?_ ?_ ?_ ?_
 ·refine⟨Nat.zero_le _,?_,?_,?_,?_,?_⟩<;>simp only[go_sem,e0,e1,e2,e3,e4]
 ·exact qe
 ·have F:=chAV.eq_1;exact qe
 try clear e0 e1 e2 e3 e4
 rintro j ws esc ⟨hj,e0,e1,e2,e3,e4⟩;by_cases hlt:j<c.trans.length
 ·obtain⟨t,hss⟩:=gE hlt;have g1:=nlt hlt;have g2:=zaa hlt (by omega);have htm:=hs.tr t (List.mem_of_getElem? hss);have f1:=ziX env (t.guard.map opAV) (by rw[List.length_map];exact htm.1);have f2:=zen env t.acts htm.2;have htl:(c.trans.take j).length=j:=by rw[List.length_take];omega
  have hf:Fits (j+1) 80:=zae (by omega) (by omega);have htk:c.trans.take (j+1)=c.trans.take j++[t]:=by rw[List.take_add_one,hss];rfl
  have F:=ai12 chAV.eq_1 trAV.eq_1 g1 g2 hss htl hf e0 e1 e2 e3 e4;repeat refine tz2 f1 f2 ?_
  refine⟨j+1,⟨hlt,?_,?_,?_,?_,?_⟩,?_,?_,by omega⟩;all_goals (first|(show _=false;simp only[go_sem,e0,e1,e2,e3,e4];done)|skip)
  ·exact qe
  ·have F:=ai9 chAV.eq_1 trAV.eq_1 htk @List.map_append.{0,0} e0 e1 e2 e3 e4;exact qe
 obtain rfl:j=c.trans.length:=by omega
 have g1:=nl c.trans.length;have hta:c.trans.take c.trans.length=c.trans:=List.take_length;have F:=ai8 chAV.eq_1 g1 hta e0 e1 e2 e3 e4;repeat refine st ?_
 exact aR
end
section
open Go.RowKit
def zdv (s:List UInt8):List AV:=[Sg s]
theorem zfn (l:List (List UInt8)):zaL (l.map strC)=l.map zdv:=by
 unfold zaL;rw[List.map_map];rfl
def zaR (c:ChD) (j:Nat):List (List UInt8):=((c.trans.take j).map (·.event)).filter fun e=> !e.isEmpty
def evL (c:ChD):List (List UInt8):=Lib.compact (zdU (zaR c c.trans.length))
theorem zpv {c:ChD} {j:Nat} {t:TrD} (h:c.trans[j]? =some t):zaR c (j+1)=if t.event.isEmpty then zaR c j else zaR c j++[t.event]:=by
 unfold zaR;rw[List.take_add_one,h,List.map_append,List.filter_append];cases hb:t.event.isEmpty<;>simp[hb]
theorem zhp (c:ChD) (j:Nat):(zaR c j).length<=j:=by
 unfold zaR;exact Nat.le_trans (List.length_filter_le ..) (by simp;omega)
theorem zpV (env:Env) (c:ChD) (hc:c.trans.length<=1000000):Con prog env 64 [.agg (chAV c)] (.own 9 1 ((evL c).map zdv)):=by
 refine qf func64 call64 ntmps64 results64 ?_;have F:=chAV.eq_1;repeat refine st ?_
 refine zap 3 3 9 1 ?_;refine zab (D:=Nat) (fun j vs=>[(3, .row 3 (vs 3)),(7,trsAV c.trans),(8,I c.trans.length),(9,I j)]) (fun j _=>[(3,⟨1,(zaR c j).map zdv,9,true⟩)]) (fun j _ esc=>j<=c.trans.length/\esc 3=false) (fun j=>c.trans.length-j) 0 ?_ ?_ ?_ ?_
 ·exact⟨Nat.zero_le _,rfl⟩
 ·exact qe
 ·(simp only[go_sem,F])
  rfl
 rintro j ws esc ⟨hj,e0⟩;by_cases hlt:j<c.trans.length
 ·obtain⟨t,ht⟩:=gE hlt;have g1:=nlt hlt;have g2:=zaa hlt (by omega);have hn:=zpv ht;have hl:=zhp c j;have hf:Fits ((zaR c j).length+1) 16:=⟨by omega,by omega⟩;cases hb:t.event.isEmpty with
  | true=>
    rw[hb,if_pos rfl]at hn;have hb2:(t.event == [])=true:=by simpa using hb
    have F:=ai6 trAV.eq_1 g1 g2 ht hb2 e0;repeat refine st ?_
    refine⟨j+1,⟨hlt,by simp only[go_sem,e0]⟩,?_,?_,by omega⟩
    ·exact qe
    ·have F:=hn;exact qe
  | false=>
    rw[hb,if_neg Bool.false_ne_true]at hn;have hb2:(t.event == [])=false:=by simpa using hb
    have F:=ai7 trAV.eq_1 g1 g2 ht hb2 hf e0;repeat refine st ?_
    refine⟨j+1,⟨hlt,by simp only[go_sem,e0]⟩,?_,?_,by omega⟩
    ·exact qe
    ·have F:=ai3 hn zdv.eq_1 @List.map_append.{0,0};exact qe
 ·obtain rfl:j=c.trans.length:=by omega
  have g1:=nl c.trans.length;have hl:=zhp c c.trans.length;have F:=ai g1 e0;repeat refine st ?_
  have f1:=zmp (zaR c c.trans.length) (by omega);have hsl:(zdU (zaR c c.trans.length)).length<=9223372036854775807:=by simp[zdU];omega
  have f2:=zp3 (zdU (zaR c c.trans.length)) hsl;refine zhL 3 rfl (row:=⟨1,(zaR c c.trans.length).map zdv,9,true⟩) f1 (Nat.succ_ne_zero 0) rfl (zfn _).symm (by simp only[go_sem,e0];exact iR) (by simp only[go_sem,e0];exact iR) (by simp only[go_sem,e0];exact iR) (by simp only[go_sem,e0];exact iR) ?_;rw[zfn];repeat refine st ?_
  refine zkj 3 rfl (row:=⟨1,(zdU (zaR c c.trans.length)).map zdv,9,true⟩) f2 (Nat.succ_ne_zero 0) rfl (zfn _).symm (by simp only[go_sem,e0];exact iR) (by simp only[go_sem,e0];exact iR) (by simp only[go_sem,e0];exact iR) (by simp only[go_sem,e0];exact iR) iR ?_;rw[zfn];repeat refine st ?_
  (refine zal ?_;show (zaG _ _ _).run _=some _;simp only[go_sem,F])
  rfl
end

end Go.Proofs.YtbpmkofnfgdegaaGreatDoor