/- What comes to states that are entered, plain: as the program says and as the document says. No program is named here. -/
import Derived.Test.YtlmekdfleciejaaGreatDoorD27
namespace Go.Proofs.YtlmekdfleciejaaGreatDoor
open Go.RowKit
def zaL (c:ChD) (i:Int):Bool:=match at_ c i with
 | some s=>s.kind==1
 | none=>false
def iniZ (c:ChD) (i:Int):Int:=match at_ c i with
 | some s=>s.initial
 | none=> -1
def aboveB (c:ChD) (k i:Int):Bool:=(upL c i).contains k
def domP (c:ChD) (tg i:Int):Bool:=decide (i<0)||(zaL c i&&aboveB c i tg)
def domE (c:ChD) (src tg:Int):Int:=((upL c src).find? (domP c tg)).getD (-1)
theorem zcL {α:Type} {p:α->Bool} {l:List α} {j:Nat} {x:α} (h:l[j]? =some x):(l.drop j).find? p=if p x=true then some x else(l.drop (j+1)).find? p:=by
 obtain⟨hj,rfl⟩:=List.getElem?_eq_some_iff.1 h
 rw [List.drop_eq_getElem_cons hj,List.find?_cons]
 cases p l[j]<;>rfl
abbrev kidZ (c:ChD) (i:Int):List Int:=zL (kidsL c i true)
theorem zcz {c:ChD} (h:Right c) {i k:Int} (hk:k∈kidZ c i):inZ c k=true/\parZ c k=i/\i<k:=by
 obtain⟨j,hj,rfl⟩:=List.mem_map.1 hk
 obtain⟨s,hs,hp,_⟩:=zp1 hj
 refine⟨zaM.2 (List.getElem?_eq_some_iff.1 hs).1,by rw [zcx hs,hp], ?_⟩
 have:=h.par j s hs
 omega
theorem zg3 (c:ChD) (i:Int):(kidZ c i).Nodup:=by
 unfold kidZ zL
 exact List.Pairwise.map _ (fun a b hne he=>hne (by omega)) (zcg c i true)
/-! What comes with a state -/
def newK (c:ChD) (l:List Int) (i:Int):List Int:=
 if zaL c i=true then(if (kidZ c i).any (fun k=>l.contains k)=true then [] else if 0<=iniZ c i then [iniZ c i] else []) else kidZ c i
def addK (c:ChD) (l:List Int) (i:Int):List Int:=(newK c l i).filter fun k=> !l.contains k
def zdP (c:ChD):Nat->List Int->List Int->List Int
 | 0,l,_=>l
 | _+1,l,[]=>l
 | f+1,l,i::r=>zdP c f (l++addK c l i) (r++addK c l i)
def missL (c:ChD) (l:List Int):Nat:=((List.range c.states.length).filter fun k:Nat=> !l.contains (k:Int)).length
def growL (c:ChD) (l:List Int):List Int:=zdP c (missL c l+l.length) l l
inductive Gr (c:ChD) (l:List Int):Int->Prop
 | base {x:Int} (h:x∈l):Gr c l x
 | ini {p:Int} (h:Gr c l p) (hp:zaL c p=true) (hn: ∀k∈kidZ c p,k∉l) (h0:0<=iniZ c p):Gr c l (iniZ c p)
 | par {p k:Int} (h:Gr c l p) (hp:zaL c p=false) (hk:k∈kidZ c p):Gr c l k
theorem zeq {c:ChD} (h:Full c) {p:Int} (hp:zaL c p=true) (h0:0<=iniZ c p):iniZ c p∈kidZ c p:=by
 unfold zaL at hp
 unfold iniZ at h0 |-
 cases ha:at_ c p with
 | none=>rw [ha] at hp; cases hp
 | some s=>
   rw [ha] at hp h0
   simp only at hp h0 |-
   have hz:0<=p:=by
    unfold at_ at ha
    split at ha
    ·assumption
    ·cases ha
   obtain⟨k,rfl⟩: ∃k:Nat,p=k:=⟨p.toNat,by omega⟩
   rw [zbp] at ha
   have hk:s.kind=1:=by simpa using hp
   rcases h.cases ha with⟨_,h2 | ⟨j,hj,e⟩⟩ | ⟨e,_⟩ | ⟨e,_⟩ | ⟨e | e,_⟩
   ·omega
   ·rw [e]; exact List.mem_map.2 ⟨j,hj,rfl⟩
   all_goals omega
theorem zk3 {c:ChD} (h:Full c) {l:List Int} {i k:Int} (hk:k∈newK c l i):k∈kidZ c i:=by
 unfold newK at hk
 split at hk
 ·rename_i hp
  split at hk
  ·cases hk
  ·split at hk
   ·rename_i h0
    rw [List.mem_singleton.1 hk]
    exact zeq h hp h0
   ·cases hk
 ·exact hk
theorem zcn {c:ChD} (h:Full c) {l:List Int} {i k:Int} (hk:k∈addK c l i):k∉l/\inZ c k=true/\parZ c k=i:=by
 obtain⟨h1,h2⟩:=List.mem_filter.1 hk
 obtain⟨q1,q2,_⟩:=zcz h.toRight (zk3 h h1)
 exact⟨by simpa using h2,q1,q2⟩
theorem zg0 (c:ChD) (l:List Int) (i:Int):(newK c l i).Nodup:=by
 unfold newK
 split
 ·split
  ·exact List.nodup_nil
  ·split
   ·simp
   ·exact List.nodup_nil
 ·exact zg3 c i
theorem zb9 (c:ChD) (l:List Int) (i:Int):(addK c l i).Nodup:=(zg0 c l i).sublist List.filter_sublist
theorem zhb {α:Type} (p q:α->Bool): ∀l:List α,(l.filter fun x=>p x&& !q x).length+(l.filter fun x=>p x&&q x).length=(l.filter p).length
 | []=>rfl
 | x::l=>by
   have:=zhb p q l
   simp only [List.filter_cons]
   cases p x<;>cases q x<;>simp<;>omega
theorem zeh {c:ChD} {l a:List Int} (hn:a.Nodup) (ha: ∀k∈a,k∉l/\inZ c k=true):missL c (l++a)+a.length<=missL c l:=by
 have e:=zhb (fun k:Nat=> !l.contains (k:Int)) (fun k:Nat=>a.contains (k:Int)) (List.range c.states.length)
 have e1:missL c (l++a)=((List.range c.states.length).filter fun k:Nat=> !l.contains (k:Int)&& !a.contains (k:Int)).length:=by
  unfold missL
  congr 1
  apply List.filter_congr
  intro k _
  simp [List.contains_eq_mem]
 have e2:a.length<=((List.range c.states.length).filter fun k:Nat=> !l.contains (k:Int)&&a.contains (k:Int)).length:=by
  have:(a.map Int.toNat).Nodup:=by
   refine List.Pairwise.map (R:=fun x y=>x≠y/\0<=x/\0<=y) _ (fun x y hxy=>by omega) ?_
   refine List.Pairwise.imp_of_mem ?_ hn
   intro x y hx hy hne
   exact⟨hne,(zag.1 (ha x hx).2).1,(zag.1 (ha y hy).2).1⟩
  have:=this.length_le_of_subset (l₂:=(List.range c.states.length).filter fun k:Nat=> !l.contains (k:Int)&&a.contains (k:Int)) fun x hx=>by
   obtain⟨y,hy,rfl⟩:=List.mem_map.1 hx
   obtain⟨y1,y2⟩:=ha y hy
   have y3:=zag.1 y2
   rw [List.mem_filter,List.mem_range]
   have e:((y.toNat:Nat):Int)=y:=by omega
   refine⟨by omega, ?_⟩
   rw [e]
   simp [y1,hy]
  simpa using this
 unfold missL at e1 |-
 omega
structure Grown (c:ChD) (l0 l t:List Int):Prop where
 sub: ∀x∈l0,x∈l
 todo: ∀x∈t,x∈l
 nd:t.Nodup
 gr: ∀x∈l,Gr c l0 x
 par: ∀x∈l,x∉l0->parZ c x∈l/\parZ c x∉t
 done: ∀p∈l,p∉t->(zaL c p=true->(∀k∈kidZ c p,k∉l0)->0<=iniZ c p->iniZ c p∈l)/\(zaL c p=false-> ∀k∈kidZ c p,k∈l)
theorem Grown.step {c:ChD} (h:Full c) {l0 l r:List Int} {i:Int} (g:Grown c l0 l (i::r)):Grown c l0 (l++addK c l i) (r++addK c l i):=by
 have hi:=g.todo i (by simp)
 obtain⟨n1,n2⟩:=List.nodup_cons.1 g.nd
 have old: ∀k∈kidZ c i,k∈l->k∈l0:=fun k hk hl=>Classical.byContradiction fun hn=>by
  have:=(g.par k hl hn).2
  rw [(zcz h.toRight hk).2.1] at this
  exact this (by simp)
 have hgr: ∀x∈addK c l i,Gr c l0 x:=fun x hx=>by
  obtain⟨h1,h2⟩:=List.mem_filter.1 hx
  have h1':=h1
  unfold newK at h1
  split at h1
  ·rename_i hp
   split at h1
   ·cases h1
   ·rename_i hany
    split at h1
    ·rename_i h0
     rw [List.mem_singleton.1 h1]
     refine .ini (g.gr i hi) hp (fun k hk hl=>hany ?_) h0
     rw [List.any_eq_true]
     exact⟨k,hk,by simpa using g.sub k hl⟩
    ·cases h1
  ·rename_i hp
   exact .par (g.gr i hi) (by simpa using hp) h1
 refine⟨fun x hx=>List.mem_append_left _ (g.sub x hx),fun x hx=> ?_, ?_,fun x hx=> ?_,fun x hx hn=> ?_,fun p hp hpt=> ?_⟩
 ·rcases List.mem_append.1 hx with hx | hx
  ·exact List.mem_append_left _ (g.todo x (List.mem_cons_of_mem _ hx))
  ·exact List.mem_append_right _ hx
 ·rw [List.nodup_append]
  refine⟨n2,zb9 c l i,fun x hx y hy e=> ?_⟩
  subst e
  exact(zcn h hy).1 (g.todo x (List.mem_cons_of_mem _ hx))
 ·rcases List.mem_append.1 hx with hx | hx
  ·exact g.gr x hx
  ·exact hgr x hx
 ·rcases List.mem_append.1 hx with hx | hx
  ·obtain⟨q1,q2⟩:=g.par x hx hn
   refine⟨List.mem_append_left _ q1,fun hh=> ?_⟩
   rcases List.mem_append.1 hh with hh | hh
   ·exact q2 (List.mem_cons_of_mem _ hh)
   ·exact(zcn h hh).1 q1
  ·obtain⟨q1,_,q3⟩:=zcn h hx
   rw [q3]
   refine⟨List.mem_append_left _ hi,fun hh=> ?_⟩
   rcases List.mem_append.1 hh with hh | hh
   ·exact n1 hh
   ·exact(zcn h hh).1 hi
 ·have hpl:p∈l:=by
   rcases List.mem_append.1 hp with hp | hp
   ·exact hp
   ·exact absurd (List.mem_append_right _ hp) hpt
  by_cases e:p=i
  ·subst e
   have key: ∀k∈newK c l p,k∈l++addK c l p:=fun k hk=>by
    by_cases hl:k∈l
    ·exact List.mem_append_left _ hl
    ·exact List.mem_append_right _ (List.mem_filter.2 ⟨hk,by simpa using hl⟩)
   refine⟨fun hpp hno h0=>key _ ?_,fun hpp k hk=>key k ?_⟩
   ·unfold newK
    rw [if_pos hpp,if_neg ?_,if_pos h0]
    ·simp
    ·rw [List.any_eq_true]
     rintro⟨k,hk,hl⟩
     exact hno k hk (old k hk (by simpa using hl))
   ·unfold newK
    rw [if_neg (by rw [hpp]; simp)]
    exact hk
  ·have hpt':p∉i::r:=fun hh=>by
    rcases List.mem_cons.1 hh with rfl | hh
    ·exact e rfl
    ·exact hpt (List.mem_append_left _ hh)
   obtain⟨q1,q2⟩:=g.done p hpl hpt'
   exact⟨fun a b d=>List.mem_append_left _ (q1 a b d),fun a k hk=>List.mem_append_left _ (q2 a k hk)⟩
theorem Grown.all {c:ChD} {l0 l:List Int} (g:Grown c l0 l []) {x:Int} :x∈l↔Gr c l0 x:=by
 refine⟨g.gr x,fun h=> ?_⟩
 induction h with
 | base h=>exact g.sub _ h
 | ini _ hp hn h0 ih=>exact(g.done _ ih (by simp)).1 hp hn h0
 | par _ hp hk ih=>exact(g.done _ ih (by simp)).2 hp _ hk
theorem Grown.grow {c:ChD} (h:Full c) {l0:List Int} : ∀(f:Nat) (l t:List Int),Grown c l0 l t->missL c l+t.length<=f->Grown c l0 (zdP c f l t) []
 | 0,l,t,g,hf=>by
   have:t=[]:=List.eq_nil_of_length_eq_zero (by omega)
   subst this
   exact g
 | f+1,l,[],g,hf=>g
 | f+1,l,i::r,g,hf=>by
   unfold zdP
   refine Grown.grow h f _ _ (g.step h) ?_
   have:=zeh (c:=c) (l:=l) (zb9 c l i) fun k hk=>⟨(zcn h hk).1,(zcn h hk).2.1⟩
   simp only [List.length_append,List.length_cons] at hf |-
   omega
theorem zi4 {c:ChD} (h:Full c) {l0:List Int} : ∀ {f g:Nat} {l t:List Int},Grown c l0 l t->missL c l+t.length<=f->missL c l+t.length<=g->zdP c f l t=zdP c g l t
 | 0,0,_,_,_,_,_=>rfl
 | 0,g+1,l,t,_,hf,_=>by
   have:t=[]:=List.eq_nil_of_length_eq_zero (by omega)
   subst this
   rfl
 | f+1,0,l,t,_,_,hg=>by
   have:t=[]:=List.eq_nil_of_length_eq_zero (by omega)
   subst this
   rfl
 | f+1,g+1,l,[],_,_,_=>rfl
 | f+1,g+1,l,i::r,gr,hf,hg=>by
   have:=zeh (c:=c) (l:=l) (zb9 c l i) fun k hk=>⟨(zcn h hk).1,(zcn h hk).2.1⟩
   simp only [List.length_cons] at hf hg
   unfold zdP
   exact zi4 h (gr.step h) (by rw [List.length_append]; omega) (by rw [List.length_append]; omega)
theorem zgk {c:ChD} {l:List Int} (hn:l.Nodup):Grown c l l l:=⟨fun _ h=>h,fun _ h=>h,hn,fun _ h=> .base h,fun _ h hh=>absurd h hh,fun _ h hh=>absurd h hh⟩
theorem zcV {c:ChD} (h:Full c) {l:List Int} (hn:l.Nodup) {x:Int} :x∈growL c l↔Gr c l x:=((zgk hn).grow h _ _ _ (Nat.le_refl _)).all
theorem Gr.real {c:ChD} (h:Full c) {l:List Int} {x:Int} (g:Gr c l x):x∈l\/(x∈kidZ c (parZ c x)/\Gr c l (parZ c x)/\(zaL c (parZ c x)=true->x=iniZ c (parZ c x)/\ ∀k∈kidZ c (parZ c x),k∉l)):=by
 cases g with
 | base h=>exact .inl h
 | ini g hp hn h0=>
   rename_i p
   have hk:=zeq h hp h0
   have e:=(zcz h.toRight hk).2.1
   rw [e]
   exact .inr ⟨hk,g,fun _=>⟨rfl,hn⟩⟩
 | par g hp hk=>
   have e:=(zcz h.toRight hk).2.1
   rw [e]
   exact .inr ⟨hk,g,fun hh=>by rw [hp] at hh; cases hh⟩
theorem Gr.in {c:ChD} (h:Full c) {l:List Int} (hl: ∀x∈l,inZ c x=true) {x:Int} (g:Gr c l x):inZ c x=true:=by
 rcases g.real h with hx | ⟨hx,_⟩
 ·exact hl x hx
 ·exact(zcz h.toRight hx).1
theorem Gr.congr {c:ChD} {l l':List Int} (h: ∀x,x∈l↔x∈l') {x:Int} (g:Gr c l x):Gr c l' x:=by
 induction g with
 | base hx=>exact .base ((h _).1 hx)
 | ini _ hp hn h0 ih=>exact .ini ih hp (fun k hk hh=>hn k hk ((h k).2 hh)) h0
 | par _ hp hk ih=>exact .par ih hp hk
theorem zlR {c:ChD} {l l':List Int} (h: ∀x,x∈l↔x∈l'):sortL c l=sortL c l':=by
 have e:l.all (inZ c)=l'.all (inZ c):=by
  rw [Bool.eq_iff_iff,List.all_eq_true,List.all_eq_true]
  exact⟨fun a x hx=>a x ((h x).2 hx),fun a x hx=>a x ((h x).1 hx)⟩
 unfold sortL
 rw [e]
 split
 ·apply List.filter_congr
  intro k _
  rw [Bool.eq_iff_iff,List.contains_iff_mem,List.contains_iff_mem]
  exact h k
 ·rfl
/-! As the document says -/
def zdV (c:ChD) (l:List Int) (i:Nat):Option Int:=match c.states[i]? with
 | some s=>if l.contains (i:Int)=true then
  (if s.kind=1/\kidsL c i true≠[]/\manyI l (kidsL c i true)=0 then some s.initial
   else if s.kind=2 then(kidZ c i).find? (fun k=> !l.contains k) else none)
   else none
 | none=>none
def zcf (c:ChD) (l:List Int) (j:Nat):Option Int:=((List.range c.states.length).drop j).findSome? (zdV c l)
def lackI (c:ChD) (l:List Int):Int:=(zcf c l 0).getD (-1)
def zfl (c:ChD):Nat->List Int->List Int
 | 0,l=>l
 | f+1,l=>if lackI c l<0 then l else zfl c f (l++[lackI c l])
theorem zei {l:List Int} {ks:List Nat} :manyI l ks=0↔ ∀k∈zL ks,k∉l:=by
 unfold manyI
 rw [List.length_eq_zero_iff,List.filter_eq_nil_iff]
 constructor
 ·intro h k hk
  obtain⟨j,hj,rfl⟩:=List.mem_map.1 hk
  simpa using h j hj
 ·intro h k hk
  simpa using h k (List.mem_map.2 ⟨k,hk,rfl⟩)
theorem znR {c:ChD} (h:Full c) {l0 l:List Int} (hl: ∀x∈l,Gr c l0 x) (hs: ∀x∈l0,x∈l) {x:Int} (hx:zcf c l 0=some x):Gr c l0 x/\x∉l/\inZ c x=true:=by
 unfold zcf at hx
 rw [List.drop_zero] at hx
 obtain⟨i,hi,hx⟩:=List.exists_of_findSome?_eq_some hx
 unfold zdV at hx
 have hi:=List.mem_range.1 hi
 rw [List.getElem?_eq_getElem hi] at hx
 have hst:at_ c (i:Int)=some c.states[i]:=by rw [zbp]; exact List.getElem?_eq_getElem hi
 simp only at hx
 split at hx
 ·rename_i hin
  have hg:=hl _ (List.contains_iff_mem.1 hin)
  split at hx
  ·rename_i hc
   obtain⟨k1,k2,k3⟩:=hc
   cases hx
   have hp:zaL c (i:Int)=true:=by unfold zaL; rw [hst]; simp [k1]
   have he:iniZ c (i:Int)=c.states[i].initial:=by unfold iniZ; rw [hst]
   have h0:0<=iniZ c (i:Int):=by
    rw [he]
    rcases h.cases (List.getElem?_eq_getElem hi) with⟨_,⟨e,_⟩ | ⟨j,_,e⟩⟩ | ⟨e,_⟩ | ⟨e,_⟩ | ⟨e | e,_⟩
    ·exact absurd e k2
    all_goals omega
   have hno:=zei.1 k3
   have hk:=zeq h hp h0
   rw [<-he]
   exact⟨.ini hg hp (fun k hk hh=>hno k hk (hs k hh)) h0,hno _ hk,(zcz h.toRight hk).1⟩
  ·split at hx
   ·rename_i k2
    have hk:=List.mem_of_find?_eq_some hx
    have hn:=List.find?_some hx
    have hp:zaL c (i:Int)=false:=by unfold zaL; rw [hst]; simp [k2]
    exact⟨.par hg hp hk,by simpa using hn,(zcz h.toRight hk).1⟩
   ·cases hx
 ·cases hx
theorem znS {c:ChD} (h:Full c) {l0 l:List Int} (hl: ∀x∈l,Gr c l0 x) (hs: ∀x∈l0,x∈l) (h0: ∀x∈l0,inZ c x=true) (hx:zcf c l 0=none) {x:Int} :x∈l↔Gr c l0 x:=by
 refine⟨hl x,fun g=> ?_⟩
 have hno: ∀i,i<c.states.length->zdV c l i=none:=fun i hi=>by
  unfold zcf at hx
  rw [List.drop_zero,List.findSome?_eq_none_iff] at hx
  exact hx i (List.mem_range.2 hi)
 induction g with
 | base h=>exact hs _ h
 | ini g hp hn hi ih=>
   rename_i p
   obtain⟨k,s,rfl,hsk,ha⟩:=zb0 (g.in h h0)
   have:=hno k (List.getElem?_eq_some_iff.1 hsk).1
   unfold zdV at this
   rw [hsk] at this
   simp only at this
   rw [if_pos (List.contains_iff_mem.2 ih)] at this
   have hk1:s.kind=1:=by unfold zaL at hp; rw [ha] at hp; simpa using hp
   have hkid:=zeq h hp hi
   split at this
   ·cases this
   ·rename_i hc
    have hne:kidsL c k true≠[]:=fun e=>by rw [kidZ,e] at hkid; simp at hkid
    have hm:manyI l (kidsL c k true)≠0:=fun e=>hc ⟨hk1,hne,e⟩
    rw [Ne,zei] at hm
    obtain⟨j,hj⟩:=Classical.not_forall.1 hm
    obtain⟨hj1,hj2⟩:=Classical.not_imp.1 hj
    have hj2:=Classical.not_not.1 hj2
    rcases (hl j hj2).real h with q | ⟨_,_,q⟩
    ·exact absurd q (hn j hj1)
    ·rw [(zcz h.toRight hj1).2.1] at q
     rw [<-(q hp).1]
     exact hj2
 | par g hp hk ih=>
   rename_i p x
   obtain⟨k,s,rfl,hsk,ha⟩:=zb0 (g.in h h0)
   have:=hno k (List.getElem?_eq_some_iff.1 hsk).1
   unfold zdV at this
   rw [hsk] at this
   simp only at this
   rw [if_pos (List.contains_iff_mem.2 ih)] at this
   have hk1:s.kind≠1:=by unfold zaL at hp; rw [ha] at hp; simpa using hp
   have hkr:kidsL c k true≠[]:=fun e=>by rw [kidZ,e] at hk; simp at hk
   have hk2:s.kind=2:=by
    rcases h.cases hsk with⟨e,_⟩ | ⟨e,_⟩ | ⟨_,e,_⟩ | ⟨_,e,_⟩
    ·exact absurd e hk1
    ·exact e
    ·exact absurd (zeR e) hkr
    ·exact absurd (zeR e) hkr
   rw [if_neg (fun e=>hk1 e.1),if_pos hk2,List.find?_eq_none] at this
   simpa using this x hk
theorem zi5 {c:ChD} (h:Full c) {l0:List Int} (h0: ∀x∈l0,inZ c x=true): ∀(f:Nat) (l:List Int),(∀x∈l,Gr c l0 x)->(∀x∈l0,x∈l)->missL c l<f-> ∀ {x:Int},x∈zfl c f l↔Gr c l0 x
 | 0,l,hl,hs,hf=>by omega
 | f+1,l,hl,hs,hf=>by
   unfold zfl lackI
   cases hx:zcf c l 0 with
   | none=>
     simp only [Option.getD_none]
     rw [if_pos (by omega)]
     exact znS h hl hs h0 hx
   | some y=>
     obtain⟨g,hn,hz⟩:=znR h hl hs hx
     simp only [Option.getD_some]
     rw [if_neg (by have:=zag.1 hz; omega)]
     refine zi5 h h0 f _ (fun z hz=> ?_) (fun z hz=>List.mem_append_left _ (hs z hz)) ?_
     ·rcases List.mem_append.1 hz with hz | hz
      ·exact hl z hz
      ·rw [List.mem_singleton.1 hz]; exact g
     ·have:=zeh (c:=c) (l:=l) (a:=[y]) (by simp) fun k hk=>by rw [List.mem_singleton.1 hk]; exact⟨hn,hz⟩
      simp only [List.length_singleton] at this
      omega
theorem znA (c:ChD) (l:List Int):missL c l<=c.states.length:=by
 unfold missL
 exact Nat.le_trans (List.length_filter_le ..) (by simp)
def growRL (c:ChD) (l:List Int):List Int:=zfl c (c.states.length+1) l
theorem zg6 {c:ChD} (h:Full c) {l:List Int} (h0: ∀x∈l,inZ c x=true) {x:Int} :x∈growRL c l↔Gr c l x:=zi5 h h0 _ l (fun _ hx=> .base hx) (fun _ hx=>hx) (by have:=znA c l; omega)
/-! The ways up of some states -/
def addU (o:List Int) (i:Int):List Int:=if o.contains i=true then o else o++[i]
def upTo (c:ChD) (d:Int) (o U:List Int) (m:Nat):List Int:=(U.take m).foldl (fun o k=>if 0<=k/\aboveB c d k=true then addU o k else o) o
def upsTo (c:ChD) (d:Int) (l:List Int) (j:Nat):List Int:=(l.take j).foldl (fun o i=>upTo c d (addU o i) (upL c i) (upL c i).length) []
def upsL (c:ChD) (l:List Int) (d:Int):List Int:=upsTo c d l l.length
theorem zdK {α β:Type} (f:β->α->β) (b:β) {l:List α} {j:Nat} {x:α} (h:l[j]? =some x):(l.take (j+1)).foldl f b=f ((l.take j).foldl f b) x:=by
 rw [List.take_add_one,h,List.foldl_append]
 rfl
theorem zic {o:List Int} {i x:Int} :x∈addU o i↔x∈o\/x=i:=by
 unfold addU
 split
 ·rename_i h
  have h:=List.contains_iff_mem.1 h
  exact⟨.inl,fun hh=>hh.elim id fun e=>e ▸ h⟩
 ·rw [List.mem_append,List.mem_singleton]
theorem ze7 {o:List Int} (h:o.Nodup) (i:Int):(addU o i).Nodup:=by
 unfold addU
 split
 ·exact h
 ·rename_i hh
  rw [List.nodup_append]
  refine⟨h,by simp,fun x hx y hy e=> ?_⟩
  rw [List.mem_singleton.1 hy] at e
  subst e
  exact hh (List.contains_iff_mem.2 hx)
theorem zjP {c:ChD} {d:Int} {U:List Int} : ∀(m:Nat) {o:List Int},m<=U.length->o.Nodup->(upTo c d o U m).Nodup/\ ∀x,x∈upTo c d o U m↔x∈o\/(x∈U.take m/\0<=x/\aboveB c d x=true)
 | 0,o,_,hn=>⟨hn,fun x=>by simp [upTo]⟩
 | m+1,o,hm,hn=>by
   obtain⟨k,hk⟩: ∃k,U[m]? =some k:=⟨U[m],List.getElem?_eq_getElem (by omega)⟩
   obtain⟨q1,q2⟩:=zjP (c:=c) (d:=d) (U:=U) m (o:=o) (by omega) hn
   have e:upTo c d o U (m+1)=if 0<=k/\aboveB c d k=true then addU (upTo c d o U m) k else upTo c d o U m:=zdK _ _ hk
   have e2: ∀x,x∈U.take (m+1)↔x∈U.take m\/x=k:=fun x=>by rw [List.take_add_one,hk]; simp
   rw [e]
   split
   ·rename_i hc
    refine⟨ze7 q1 k,fun x=> ?_⟩
    rw [zic,q2,e2]
    constructor
    ·rintro((a | ⟨a,b⟩) | rfl)
     ·exact .inl a
     ·exact .inr ⟨.inl a,b⟩
     ·exact .inr ⟨.inr rfl,hc⟩
    ·rintro(a | ⟨a | rfl,b⟩)
     ·exact .inl (.inl a)
     ·exact .inl (.inr ⟨a,b⟩)
     ·exact .inr rfl
   ·rename_i hc
    refine⟨q1,fun x=> ?_⟩
    rw [q2,e2]
    constructor
    ·rintro(a | ⟨a,b⟩)
     ·exact .inl a
     ·exact .inr ⟨.inl a,b⟩
    ·rintro(a | ⟨a | rfl,b⟩)
     ·exact .inl a
     ·exact .inr ⟨a,b⟩
     ·exact absurd b hc
theorem zht {c:ChD} {d:Int} {l:List Int} : ∀(j:Nat),j<=l.length->(upsTo c d l j).Nodup/\ ∀x,x∈upsTo c d l j↔x∈l.take j\/ ∃i∈l.take j,x∈upL c i/\0<=x/\aboveB c d x=true
 | 0,_=>⟨List.nodup_nil,fun x=>by simp [upsTo]⟩
 | j+1,hj=>by
   obtain⟨k,hk⟩: ∃k,l[j]? =some k:=⟨l[j],List.getElem?_eq_getElem (by omega)⟩
   obtain⟨q1,q2⟩:=zht (c:=c) (d:=d) (l:=l) j (by omega)
   have e:upsTo c d l (j+1)=upTo c d (addU (upsTo c d l j) k) (upL c k) (upL c k).length:=zdK _ _ hk
   have e2: ∀x,x∈l.take (j+1)↔x∈l.take j\/x=k:=fun x=>by rw [List.take_add_one,hk]; simp
   obtain⟨p1,p2⟩:=zjP (c:=c) (d:=d) (U:=upL c k) _ (Nat.le_refl _) (ze7 q1 k)
   rw [e]
   refine⟨p1,fun x=> ?_⟩
   rw [p2,zic,q2,List.take_length]
   simp only [e2]
   constructor
   ·rintro(((a | ⟨i,a,b⟩) | rfl) | b)
    ·exact .inl (.inl a)
    ·exact .inr ⟨i, .inl a,b⟩
    ·exact .inl (.inr rfl)
    ·exact .inr ⟨k, .inr rfl,b⟩
   ·rintro((a | rfl) | ⟨i,a | rfl,b⟩)
    ·exact .inl (.inl (.inl a))
    ·exact .inl (.inr rfl)
    ·exact .inl (.inl (.inr ⟨i,a,b⟩))
    ·exact .inr b
theorem zdR {c:ChD} {d:Int} {l:List Int} :(upsL c l d).Nodup/\ ∀x,x∈upsL c l d↔x∈l\/ ∃i∈l,x∈upL c i/\0<=x/\aboveB c d x=true:=by
 have:=zht (c:=c) (d:=d) (l:=l) _ (Nat.le_refl _)
 rw [List.take_length] at this
 exact this
def zhP (c:ChD) (l:List Int) (d:Int) (i:Nat):Bool:=l.contains (i:Int)||l.any fun k=>aboveB c (i:Int) k&&aboveB c d (i:Int)
def pathL (c:ChD) (l:List Int) (d:Int):List Nat:=(List.range c.states.length).filter (zhP c l d)
theorem zcu {c:ChD} (h:Right c) {k i:Int} (ha:k∈upL c i) (h0:0<=k):inZ c k=true/\k<i:=by
 have:=zeG h 40 i k ha
 have hi:inZ c i=true:=by
  cases hh:inZ c i with
  | true=>rfl
  | false=>rw [zbq hh] at ha; simp at ha
 have:=zag.1 hi
 exact⟨zag.2 ⟨h0,by omega⟩,by omega⟩
theorem zfC {c:ChD} (h:Right c) {l:List Int} (hl: ∀x∈l,inZ c x=true) {d x:Int} :x∈zL (pathL c l d)↔x∈upsL c l d:=by
 rw [zdR.2]
 constructor
 ·intro hx
  obtain⟨i,hi,rfl⟩:=List.mem_map.1 hx
  obtain⟨_,hb⟩:=List.mem_filter.1 hi
  unfold zhP at hb
  rw [Bool.or_eq_true,List.any_eq_true] at hb
  rcases hb with hb | ⟨k,hk,hb⟩
  ·exact .inl (by simpa using hb)
  ·rw [Bool.and_eq_true] at hb
   exact .inr ⟨k,hk,by simpa [aboveB] using hb.1,by omega,hb.2⟩
 ·intro hx
  have hz:inZ c x=true:=by
   rcases hx with hx | ⟨i,_,h1,h2,_⟩
   ·exact hl x hx
   ·exact(zcu h h1 h2).1
  have h3:=zag.1 hz
  refine List.mem_map.2 ⟨x.toNat,List.mem_filter.2 ⟨List.mem_range.2 (by omega), ?_⟩,by omega⟩
  have e:((x.toNat:Nat):Int)=x:=by omega
  unfold zhP
  rw [e,Bool.or_eq_true,List.any_eq_true]
  rcases hx with hx | ⟨i,h0,h1,h2,h4⟩
  ·exact .inl (by simpa using hx)
  ·exact .inr ⟨i,h0,by rw [Bool.and_eq_true]; exact⟨by simpa [aboveB] using h1,h4⟩⟩
theorem zjR {c:ChD} (h:Full c) {l:List Int} (hl: ∀x∈l,inZ c x=true) (d:Int):sortL c (growL c (upsL c l d))=sortL c (growRL c (zL (pathL c l d))):=by
 apply zlR
 intro x
 have hp: ∀x∈zL (pathL c l d),inZ c x=true:=fun x hx=>by
  obtain⟨i,hi,rfl⟩:=List.mem_map.1 hx
  exact zaM.2 (List.mem_range.1 (List.mem_filter.1 hi).1)
 rw [zcV h zdR.1,zg6 h hp]
 exact⟨.congr fun x=>(zfC h.toRight hl).symm, .congr fun x=>zfC h.toRight hl⟩
end Go.Proofs.YtlmekdfleciejaaGreatDoor
