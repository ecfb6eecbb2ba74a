/- Contracts of expressions' checks, of numbers among numbers: by the walk without memory. -/
import Derived.Test.YtnbjaghjdeicmaaGreatDoorD10
import Derived.Test.YtnbjaghjdeicmaaGreatDoorD6
import Derived.WalkKit
import Derived.LaidEql
import Derived.Stop.Asserts
import Derived.RowKitTokens
import Derived.Test.YtnbjaghjdeicmaaGreatDoorD7
import Derived.Test.YtnbjaghjdeicmaaGreatDoorD5
set_option maxRecDepth 100000
set_option maxHeartbeats 8000000
set_option linter.unusedSimpArgs false
namespace Go.Proofs.YtnbjaghjdeicmaaGreatDoor
section
open Go.RowKit
def inZ (c:ChD) (i:Int):Bool:=decide (0<=i)&&decide (i<c.states.length)
def parZ (c:ChD) (i:Int):Int:=match at_ c i with
 | some s=>s.parent
 | none=> -1
theorem zak {c:ChD} {i:Int} :inZ c i=true↔0<=i/\i<c.states.length:=by
 unfold inZ
 rw [Bool.and_eq_true,decide_eq_true_eq,decide_eq_true_eq]
theorem zaS {c:ChD} {k:Nat} :inZ c k=true↔k<c.states.length:=by rw [zak]; omega
theorem zbV (c:ChD) (k:Nat):at_ c k=c.states[k]? :=by unfold at_; rw [if_pos (by omega),Int.toNat_natCast]
theorem zcL {c:ChD} {i:Int} (h:inZ c i=true): ∃k s,i=(k:Nat)/\c.states[k]? =some s/\at_ c i=some s:=by
 obtain⟨h1,h2⟩:=zak.1 h
 have hk:i.toNat<c.states.length:=by omega
 refine⟨i.toNat,c.states[i.toNat],by omega,List.getElem?_eq_getElem hk, ?_⟩
 unfold at_
 rw [if_pos h1,List.getElem?_eq_getElem hk]
theorem zbZ {c:ChD} (h:Right c) {i:Int} (hi:inZ c i=true): -1<=parZ c i/\parZ c i<i:=by
 obtain⟨k,s,rfl,h1,h2⟩:=zcL hi
 unfold parZ
 rw [h2]
 exact h.par k s h1
theorem zc1 {c:ChD} {k:Nat} {s:StD} (h:c.states[k]? =some s):parZ c k=s.parent:=by
 unfold parZ
 rw [zbV,h]
/-! The way up -/
def upF (c:ChD):Nat->Int->List Int
 | 0,_=>[]
 | f+1,i=>if inZ c i=true then parZ c i::upF c f (parZ c i) else []
def upL (c:ChD) (i:Int):List Int:=upF c 40 i
theorem zeC {c:ChD} {i:Int} (h:inZ c i=false) (f:Nat):upF c f i=[]:=by
 cases f with
 | zero=>rfl
 | succ f=>unfold upF; rw [h]; simp
theorem zpq {c:ChD} (h:Right c): ∀(f g:Nat) (i:Int),i<f->i<g->upF c f i=upF c g i
 | 0,g,i,h1,h2=>by
   have:inZ c i=false:=by
    cases hh:inZ c i
    ·rfl
    ·have:=zak.1 hh; omega
   rw [zeC this,zeC this]
 | f+1,g,i,h1,h2=>by
   cases hh:inZ c i with
   | false=>rw [zeC hh,zeC hh]
   | true=>
     have h0:=(zak.1 hh).1
     obtain⟨g',rfl⟩: ∃g',g=g'+1:=⟨g-1,by omega⟩
     have:=zbZ h hh
     unfold upF
     rw [hh]
     simp only [if_true]
     rw [zpq h f g' (parZ c i) (by omega) (by omega)]
theorem zbM {c:ChD} {i:Int} (h:inZ c i=false):upL c i=[]:=zeC h _
theorem ziD {c:ChD} (h:Right c) {i:Int} (hi:inZ c i=true):upL c i=parZ c i::upL c (parZ c i):=by
 have hf:=h.few
 have h2:=zak.1 hi
 have h3:=zbZ h hi
 show upF c (39+1) i=parZ c i::upF c 40 (parZ c i)
 rw [show upF c (39+1) i=if inZ c i=true then parZ c i::upF c 39 (parZ c i) else [] from rfl,if_pos hi,zpq h 39 40 _ (by omega) (by omega)]
theorem zfs {c:ChD} (h:Right c): ∀(f:Nat) (i:Int) (k:Int),k∈upF c f i-> -1<=k/\k<i
 | 0,i,k,hk=>by simp [upF] at hk
 | f+1,i,k,hk=>by
   cases hh:inZ c i with
   | false=>rw [zeC hh] at hk; simp at hk
   | true=>
     have:=zbZ h hh
     unfold upF at hk
     rw [hh] at hk
     simp only [if_true,List.mem_cons] at hk
     rcases hk with rfl | hk
     ·exact this
     ·have:=zfs h f _ k hk
      omega
theorem zbN {c:ChD} (h:Right c) {i:Int} (hi:inZ c i=true) {k:Int} :k∈upL c i↔k=parZ c i\/k∈upL c (parZ c i):=by rw [ziD h hi,List.mem_cons]
theorem zeU {c:ChD} : ∀(f:Nat) (i:Int),(upF c f i).length<=f
 | 0,i=>by simp [upF]
 | f+1,i=>by
   unfold upF
   split
   ·have:=zeU (c:=c) f (parZ c i); simp; omega
   ·simp
theorem ziB {c:ChD} (h:Right c): ∀(n:Nat) (i:Int),inZ c i=true->i<n-> -1∈upL c i
 | 0,i,hi,hn=>by have:=zak.1 hi; omega
 | n+1,i,hi,hn=>by
   rw [zbN h hi]
   have hp:=zbZ h hi
   by_cases e:parZ c i= -1
   ·exact .inl e.symm
   ·have h2:=zak.1 hi
    exact .inr (ziB h n _ (zak.2 (by omega)) (by omega))
theorem zec {c:ChD} (h:Right c): ∀(n:Nat) (i j k:Int),i<n->j∈upL c i->k∈upL c j->k∈upL c i
 | 0,i,j,k,hn,hj,hk=>by
   cases hh:inZ c i with
   | false=>rw [zbM hh] at hj; simp at hj
   | true=>have:=zak.1 hh; omega
 | n+1,i,j,k,hn,hj,hk=>by
   cases hh:inZ c i with
   | false=>rw [zbM hh] at hj; simp at hj
   | true=>
     rw [zbN h hh] at hj |-
     have hp:=zbZ h hh
     rcases hj with rfl | hj
     ·exact .inr hk
     ·exact .inr (zec h n _ j k (by omega) hj hk)
/-! What is above a state, as bits -/
def zqo (c:ChD):Nat->Int->Nat
 | 0,_=>0
 | f+1,i=>if inZ c i=true then(if 0<=parZ c i then zqo c f (parZ c i)||| 2^(parZ c i).toNat else 0) else 0
theorem zi7 {c:ChD} (h:Right c): ∀(f:Nat) (i:Int) (k:Nat),(zqo c f i).testBit k=decide ((k:Int)∈upF c f i)
 | 0,i,k=>by simp [zqo,upF]
 | f+1,i,k=>by
   unfold zqo upF
   cases hh:inZ c i with
   | false=>simp
   | true=>
     simp only [if_true]
     have hp:=zbZ h hh
     by_cases e:0<=parZ c i
     ·rw [if_pos e,Nat.testBit_or,zi7 h f,Nat.testBit_two_pow]
      by_cases e2:(k:Int)=parZ c i
      ·have:(parZ c i).toNat=k:=by omega
       simp [e2,this]
      ·have: ¬(parZ c i).toNat=k:=by omega
       simp [e2,this]
     ·rw [if_neg e]
      have hm:parZ c i= -1:=by omega
      have hz:inZ c (-1)=false:=by
       cases hq:inZ c (-1)
       ·rfl
       ·have:=zak.1 hq; omega
      rw [hm,zeC hz]
      simp
def mask (c:ChD) (i:Int):Nat:=zqo c 40 i
theorem zi8 {c:ChD} (h:Right c) (i:Int) (k:Nat):(mask c i).testBit k=decide ((k:Int)∈upL c i):=zi7 h 40 i k
theorem zfE {c:ChD} (h:Right c) {i:Int} (hi:i<32):mask c i<2^32:=by
 apply Nat.lt_pow_two_of_testBit
 intro k hk
 rw [zi8 h]
 simp only [decide_eq_false_iff_not]
 intro hm
 have:=zfs h 40 i k hm
 omega
theorem zkm {c:ChD} (h:Right c) {i:Int} (hi:inZ c i=true):mask c i=if 0<=parZ c i then mask c (parZ c i)||| 2^(parZ c i).toNat else 0:=by
 apply Nat.eq_of_testBit_eq
 intro k
 have hp:=zbZ h hi
 rw [zi8 h,ziD h hi]
 by_cases e:0<=parZ c i
 ·rw [if_pos e,Nat.testBit_or,zi8 h,Nat.testBit_two_pow]
  by_cases e2:(k:Int)=parZ c i
  ·have:(parZ c i).toNat=k:=by omega
   simp [e2,this]
  ·have: ¬(parZ c i).toNat=k:=by omega
   simp [e2,this]
 ·rw [if_neg e]
  have hm:parZ c i= -1:=by omega
  have hz:inZ c (-1)=false:=by
   cases hq:inZ c (-1)
   ·rfl
   ·have:=zak.1 hq; omega
  rw [hm,zbM hz]
  simp
theorem zbK {α β:Type} {f g:α->List β} : ∀ {l:List α},(∀x∈l,f x=g x)->l.flatMap f=l.flatMap g
 | [],_=>rfl
 | x::l,h=>by
   simp only [List.flatMap_cons]
   rw [h x (by simp),zbK fun y hy=>h y (by simp [hy])]
/-! The walk -/
def ziz (c:ChD):Nat->Int->List Nat
 | 0,_=>[]
 | f+1,i=>(kidsL c i false).flatMap fun k=>k::ziz c f k
def walkL (c:ChD) (i:Int):List Nat:=ziz c 40 i
theorem zdY {c:ChD} {i:Int} {k:Nat} :k∈kidsL c i false↔k<c.states.length/\parZ c k=i:=by
 unfold kidsL za4
 rw [List.mem_filter,List.mem_range]
 constructor
 ·rintro⟨h1,h2⟩
  obtain⟨s,hs⟩: ∃s,c.states[k]? =some s:=⟨c.states[k],List.getElem?_eq_getElem h1⟩
  refine⟨h1, ?_⟩
  unfold zb6 at h2
  rw [hs] at h2
  rw [zc1 hs]
  simpa using h2
 ·rintro⟨h1,h2⟩
  obtain⟨s,hs⟩: ∃s,c.states[k]? =some s:=⟨c.states[k],List.getElem?_eq_getElem h1⟩
  refine⟨h1, ?_⟩
  unfold zb6
  rw [hs]
  rw [zc1 hs] at h2
  simp [h2]
theorem zcD (c:ChD) (i:Int) (real:Bool):(kidsL c i real).Nodup:=List.Nodup.sublist List.filter_sublist List.nodup_range
theorem zaW {c:ChD} {i:Int} {k:Nat} (h:k∈kidsL c i true):k∈kidsL c i false/\ ∃s,c.states[k]? =some s/\zaD s=false:=by
 unfold kidsL za4 at h |-
 rw [List.mem_filter] at h |-
 obtain⟨h1,h2⟩:=h
 unfold zb6 at h2 |-
 cases hs:c.states[k]? with
 | none=>rw [hs] at h2; cases h2
 | some s=>
   rw [hs] at h2
   simp at h2 |-
   exact⟨⟨by simpa using h1,h2.1⟩,h2.2⟩
theorem za5 {c:ChD} (h:Right c) {i:Int} {k:Nat} (hk:k∈kidsL c i false):i<k/\k<c.states.length:=by
 obtain⟨h1,h2⟩:=zdY.1 hk
 have:=zbZ h (zaS.2 h1)
 omega
theorem zpj {c:ChD} (h:Right c): ∀(f g:Nat) (i:Int),(c.states.length:Int)<=i+f->(c.states.length:Int)<=i+g->ziz c f i=ziz c g i:=by
 have none: ∀(g:Nat) (i:Int),(c.states.length:Int)<=i->ziz c g i=[]:=fun g i hi=>by
  cases g with
  | zero=>rfl
  | succ g=>
    unfold ziz
    have:kidsL c i false=[]:=List.eq_nil_iff_forall_not_mem.2 fun k hk=>by have:=za5 h hk; omega
    rw [this]
    rfl
 intro f
 induction f with
 | zero=>intro g i h1 h2; rw [none g i (by omega)]; rfl
 | succ f ih=>
   intro g i h1 h2
   cases g with
   | zero=>rw [none (f+1) i (by omega)]; rfl
   | succ g=>
     unfold ziz
     apply zbK
     intro k hk
     have:=za5 h hk
     rw [ih g k (by omega) (by omega)]
theorem walk_eq {c:ChD} (h:Right c) {i:Int} (_hi: -1<=i):walkL c i=(kidsL c i false).flatMap fun k=>k::walkL c k:=by
 have hf:=h.few
 show (kidsL c i false).flatMap (fun k=>k::ziz c 39 k)=_
 apply zbK
 intro k hk
 have:=za5 h hk
 rw [show ziz c 39 k=walkL c k from zpj h 39 40 k (by omega) (by omega)]
theorem zeb {c:ChD} (h:Right c): ∀(n:Nat) (i:Int) (m:Nat), -1<=i->(c.states.length:Int)<=i+n->(m∈walkL c i↔m<c.states.length/\i∈upL c m)
 | 0,i,m,hi,hn=>by
   rw [walk_eq h hi]
   have:kidsL c i false=[]:=List.eq_nil_iff_forall_not_mem.2 fun k hk=>by have:=za5 h hk; omega
   rw [this]
   simp only [List.flatMap_nil,List.not_mem_nil,false_iff,not_and]
   intro h1 h2
   have:=zfs h 40 m i h2
   omega
 | n+1,i,m,hi,hn=>by
   rw [walk_eq h hi,List.mem_flatMap]
   constructor
   ·rintro⟨k,hk,hm⟩
    have hg:=za5 h hk
    obtain⟨k1,k2⟩:=zdY.1 hk
    rcases List.mem_cons.1 hm with rfl | hm
    ·exact⟨k1,(zbN h (zaS.2 k1)).2 (.inl k2.symm)⟩
    ·obtain⟨m1,m2⟩:=(zeb h n k m (by omega) (by omega)).1 hm
     refine⟨m1,zec h 40 m k i (by have:=h.few; omega) m2 ((zbN h (zaS.2 k1)).2 (.inl k2.symm))⟩
   ·rintro⟨h1,h2⟩
    have key: ∀(d:Nat) (m:Nat),m<d->m<c.states.length->i∈upL c m-> ∃k∈kidsL c i false,m=k\/(k:Int)∈upL c m:=fun d=>by
     induction d with
     | zero=>intro m hd; omega
     | succ d ih=>
       intro m hd hm hu
       have hin:=zaS.2 hm
       rcases (zbN h hin).1 hu with e | e
       ·exact⟨m,zdY.2 ⟨hm,e.symm⟩, .inl rfl⟩
       ·have hp:=zbZ h hin
        have h0:0<=parZ c m:=by
         rcases Int.lt_or_le (parZ c m) 0 with q | q
         ·have hz:inZ c (parZ c m)=false:=by
           cases hq:inZ c (parZ c m)
           ·rfl
           ·have:=zak.1 hq; omega
          rw [zbM hz] at e; simp at e
         ·exact q
        obtain⟨p,hpe⟩: ∃p:Nat,parZ c m=p:=⟨(parZ c m).toNat,by omega⟩
        rw [hpe] at e hp
        obtain⟨k,hk,hk2⟩:=ih p (by omega) (by omega) e
        refine⟨k,hk, .inr ((zbN h hin).2 ?_)⟩
        rw [hpe]
        rcases hk2 with rfl | hk2
        ·exact .inl rfl
        ·exact .inr hk2
    obtain⟨k,hk,hk2⟩:=key (m+1) m (by omega) h1 h2
    have hg:=za5 h hk
    refine⟨k,hk,List.mem_cons.2 ?_⟩
    rcases hk2 with e | e
    ·exact .inl e
    ·exact .inr ((zeb h n k m (by omega) (by omega)).2 ⟨h1,e⟩)
theorem zdh {c:ChD} (h:Right c) (m:Nat):m∈walkL c (-1)↔m<c.states.length:=by
 rw [zeb h 40 (-1) m (by omega) (by have:=h.few; omega)]
 exact⟨fun h=>h.1,fun hm=>⟨hm,ziB h (m+1) m (zaS.2 hm) (by omega)⟩⟩
theorem zl5 {c:ChD} (h:Right c) {i:Int} {k1 k2:Nat} (h1:k1∈kidsL c i false) (h2:k2∈kidsL c i false): ∀(d m:Nat),m<d->m<c.states.length->(m=k1\/(k1:Int)∈upL c m)->(m=k2\/(k2:Int)∈upL c m)->k1=k2:=by
 obtain⟨a1,b1⟩:=zdY.1 h1
 obtain⟨a2,b2⟩:=zdY.1 h2
 have no: ∀ {x y:Nat},x<c.states.length->parZ c x=i->y<c.states.length->parZ c y=i-> ¬(y:Int)∈upL c x:=fun {x y} hx px hy py hm=>by
  have q1:=zbZ h (zaS.2 hx)
  have q2:=zbZ h (zaS.2 hy)
  rcases (zbN h (zaS.2 hx)).1 hm with e | e
  ·omega
  ·have:=zfs h 40 _ _ e
   omega
 intro d
 induction d with
 | zero=>intro m hd; omega
 | succ d ih=>
   intro m hd hm e1 e2
   rcases e1 with rfl | e1
   ·rcases e2 with rfl | e2
    ·rfl
    ·exact absurd e2 (no a1 b1 a2 b2)
   ·rcases e2 with rfl | e2
    ·exact absurd e1 (no a2 b2 a1 b1)
    ·have hin:=zaS.2 hm
     have hp:=zbZ h hin
     have h0:0<=parZ c m:=by
      rcases Int.lt_or_le (parZ c m) 0 with q | q
      ·have hz:inZ c (parZ c m)=false:=by
        cases hq:inZ c (parZ c m)
        ·rfl
        ·have:=zak.1 hq; omega
       rw [zbN h hin,zbM hz] at e1
       rcases e1 with e | e
       ·omega
       ·simp at e
      ·exact q
     obtain⟨p,hpe⟩: ∃p:Nat,parZ c m=p:=⟨(parZ c m).toNat,by omega⟩
     rw [zbN h hin,hpe] at e1 e2
     rw [hpe] at hp
     exact ih p (by omega) (by omega) (by rcases e1 with e | e; exact .inl (by omega); exact .inr e) (by rcases e2 with e | e; exact .inl (by omega); exact .inr e)
theorem zea {c:ChD} (h:Right c): ∀(n:Nat) (i:Int), -1<=i->(c.states.length:Int)<=i+n->(walkL c i).Nodup
 | 0,i,hi,hn=>by
   rw [walk_eq h hi]
   have:kidsL c i false=[]:=List.eq_nil_iff_forall_not_mem.2 fun k hk=>by have:=za5 h hk; omega
   rw [this]
   simp
 | n+1,i,hi,hn=>by
   rw [walk_eq h hi]
   have mem: ∀k∈kidsL c i false,∀m,m∈k::walkL c k->m<c.states.length/\(m=k\/(k:Int)∈upL c m):=fun k hk m hm=>by
    have hg:=za5 h hk
    rcases List.mem_cons.1 hm with rfl | hm
    ·exact⟨hg.2, .inl rfl⟩
    ·obtain⟨q1,q2⟩:=(zeb h n k m (by omega) (by omega)).1 hm
     exact⟨q1, .inr q2⟩
   have hnd:=zcD c i false
   rw [List.nodup_iff_pairwise_ne] at hnd
   rw [List.nodup_iff_pairwise_ne,List.pairwise_flatMap]
   refine⟨fun k hk=> ?_, ?_⟩
   ·rw [<-List.nodup_iff_pairwise_ne,List.nodup_cons]
    have hg:=za5 h hk
    refine⟨fun hm=> ?_,zea h n k (by omega) (by omega)⟩
    have:=(zeb h n k k (by omega) (by omega)).1 hm
    have:=zfs h 40 _ _ this.2
    omega
   ·refine List.Pairwise.imp_of_mem (R:=fun a b=>a≠b) ?_ hnd
    intro k1 k2 hk1 hk2 hne m1 hm1 m2 hm2 e
    subst e
    obtain⟨q1,q2⟩:=mem k1 hk1 m1 hm1
    obtain⟨_,q3⟩:=mem k2 hk2 m1 hm2
    exact hne (zl5 h hk1 hk2 (m1+1) m1 (by omega) q1 q2 q3)
/-! Sorting by the walk -/
def sortL (c:ChD) (l:List Int):List Nat:=if l.all (inZ c)=true then(walkL c (-1)).filter fun k=>l.contains (k:Int) else []
theorem zr3 {c:ChD} (h:Right c) {l:List Int} (hl:l.all (inZ c)=true) {k:Nat} :k∈sortL c l↔(k:Int)∈l:=by
 unfold sortL
 rw [if_pos hl,List.mem_filter,zdh h]
 simp only [List.contains_iff_mem]
 refine⟨fun h=>h.2,fun hk=>⟨zaS.1 (List.all_eq_true.1 hl _ hk),hk⟩⟩
theorem zfw {c:ChD} (h:Right c) (l:List Int):(sortL c l).Nodup:=by
 unfold sortL
 split
 ·exact List.Nodup.sublist List.filter_sublist (zea h 40 (-1) (by omega) (by have:=h.few; omega))
 ·simp
end
section
open Go.RowKit
structure Full (c:ChD):Prop extends Right c where
 st: ∀(k:Nat) (s:StD),c.states[k]? =some s->zay c k s=true
 tr: ∀(k:Nat) (t:TrD),c.trans[k]? =some t->zcx c t=true
 ini:topB c=true
 ftr:c.trans.length<=64
theorem full_of {c:ChD} (h:(chk c).1=0):Full c:=by
 refine⟨ziS h, ?_, ?_, ?_, ?_⟩<;>
 ·unfold chk at h
  split at h
  ·simp at h
  rename_i h1
  split at h
  ·simp at h
  split at h
  ·simp at h
  split at h
  ·simp at h
  rename_i h3
  split at h
  ·simp at h
  rename_i h4
  split at h
  ·simp at h
  rename_i h5
  first
   |(intro k s hs
     have:=zbL h3 k (List.getElem?_eq_some_iff.1 hs).1
     unfold zgh at this
     rw [hs] at this
     exact this)
   |(intro k t ht
     have:=zbL h5 k (List.getElem?_eq_some_iff.1 ht).1
     unfold zju at this
     rw [ht] at this
     exact this)
   |(simpa using h4)
   | omega
theorem Full.shape {c:ChD} (h:Full c) {k:Nat} {s:StD} (hs:c.states[k]? =some s):zav c k s=true:=by
 have:=h.st k s hs
 simp only [zay,Bool.and_eq_true] at this
 exact this.1.1.2
theorem zjf {l:List Nat} {n:Int} :inL l n=true↔ ∃k∈l,(k:Int)=n:=by
 unfold inL
 rw [List.any_eq_true]
 simp
theorem Full.cases {c:ChD} (h:Full c) {k:Nat} {s:StD} (hs:c.states[k]? =some s):
 (s.kind=1/\((kidsL c k true=[]/\s.initial= -1)\/ ∃j∈kidsL c k true,s.initial=(j:Nat)))\/(s.kind=2/\s.initial= -1/\kidsL c k true≠[]/\ ∀j∈kidsL c k true,zaA c j=true)\/
  (s.kind=3/\kidsL c k false=[]/\s.initial= -1)\/((s.kind=4\/s.kind=5)/\kidsL c k false=[]/\zaQ c s=true/\inL (kidsL c s.parent true) s.initial=true):=by
 have hb:=h.shape hs
 unfold zav at hb
 split at hb
 ·rename_i e
  refine .inl ⟨e, ?_⟩
  split at hb
  ·rename_i e2
   exact .inl ⟨e2,by simpa using hb⟩
  ·obtain⟨j,hj,e3⟩:=zjf.1 hb
   exact .inr ⟨j,hj,e3.symm⟩
 split at hb
 ·rename_i e
  simp only [Bool.and_eq_true,decide_eq_true_eq,beq_iff_eq,List.all_eq_true] at hb
  exact .inr (.inl ⟨e,hb.2,fun e2=>by rw [e2] at hb; simp at hb,hb.1.1⟩)
 split at hb
 ·rename_i e
  simp only [Bool.and_eq_true,beq_iff_eq] at hb
  exact .inr (.inr (.inl ⟨e,by simpa using hb.1.1.1,hb.1.2⟩))
 split at hb
 ·rename_i e
  simp only [Bool.and_eq_true,beq_iff_eq] at hb
  exact .inr (.inr (.inr ⟨e,by simpa using hb.1.1.1.1,hb.1.1.1.2,hb.1.1.2⟩))
 ·cases hb
theorem zi5 {c:ChD} {i:Int} (h:kidsL c i false=[]):kidsL c i true=[]:=by
 apply List.eq_nil_iff_forall_not_mem.2
 intro k hk
 have:=(zaW hk).1
 rw [h] at this
 simp at this
abbrev zL (l:List Nat):List Int:=l.map fun k:Nat=>(k:Int)
/-! What begins with a state -/
def bgF (c:ChD):Nat->Nat->List Nat
 | 0,_=>[]
 | f+1,i=>i::match c.states[i]? with
   | some s=>if s.kind=1/\0<=s.initial then bgF c f s.initial.toNat else if s.kind=2 then(kidsL c i true).flatMap (bgF c f) else []
   | none=>[]
def bgL (c:ChD) (i:Nat):List Nat:=bgF c 40 i
theorem zl7 {c:ChD} (h:Full c) {i:Nat} {s:StD} (hs:c.states[i]? =some s) (h1:s.kind=1) (h0:0<=s.initial): ∃j∈kidsL c i true,s.initial=(j:Nat):=by
 rcases h.cases hs with⟨_,⟨_,e⟩ | e⟩ | ⟨e,_⟩ | ⟨e,_⟩ | ⟨e,_⟩
 ·omega
 ·exact e
 ·omega
 ·omega
 ·omega
theorem zmx {c:ChD} (h:Full c): ∀(f g:Nat) (i:Nat),i<c.states.length->c.states.length<=i+f->c.states.length<=i+g->bgF c f i=bgF c g i
 | 0,g,i,h0,h1,h2=>by omega
 | f+1,0,i,h0,h1,h2=>by omega
 | f+1,g+1,i,h0,h1,h2=>by
   unfold bgF
   congr 1
   cases hs:c.states[i]? with
   | none=>rfl
   | some s=>
     simp only
     split
     ·rename_i e
      obtain⟨j,hj,e2⟩:=zl7 h hs e.1 e.2
      have:=za5 h.toRight (zaW hj).1
      rw [e2,Int.toNat_natCast]
      exact zmx h f g j (by omega) (by omega) (by omega)
     ·split
      ·apply zbK
       intro k hk
       have:=za5 h.toRight (zaW hk).1
       exact zmx h f g k (by omega) (by omega) (by omega)
      ·rfl
theorem zsY (c:ChD) (f i:Nat):bgF c (f+1) i=i::match c.states[i]? with
 | some s=>if s.kind=1/\0<=s.initial then bgF c f s.initial.toNat else if s.kind=2 then(kidsL c i true).flatMap (bgF c f) else []
 | none=>[]:=rfl
theorem zuU {c:ChD} (h:Full c) {i:Nat} {s:StD} (hs:c.states[i]? =some s):bgL c i=i::if s.kind=1/\0<=s.initial then bgL c s.initial.toNat else if s.kind=2 then(kidsL c i true).flatMap (bgL c) else []:=by
 have hi:=(List.getElem?_eq_some_iff.1 hs).1
 have hf:=h.few
 have e0:=zsY c 39 i
 rw [hs] at e0
 simp only at e0
 have e1: ∀j,j∈kidsL c i true->bgF c 39 j=bgL c j:=fun j hj=>by
  have:=za5 h.toRight (zaW hj).1
  exact zmx h 39 40 j (by omega) (by omega) (by omega)
 refine Eq.trans e0 (congrArg (List.cons i) ?_)
 by_cases q:s.kind=1/\0<=s.initial
 ·rw [if_pos q,if_pos q]
  obtain⟨j,hj,e2⟩:=zl7 h hs q.1 q.2
  rw [e2,Int.toNat_natCast]
  exact e1 j hj
 ·rw [if_neg q,if_neg q]
  by_cases q2:s.kind=2
  ·rw [if_pos q2,if_pos q2]
   exact zbK e1
  ·rw [if_neg q2,if_neg q2]
theorem zf7 {α β:Type} {f:α->List β} : ∀ {l:List α},(∀x∈l,f x=[])->l.flatMap f=[]
 | [],_=>rfl
 | x::l,h=>by
   simp only [List.flatMap_cons]
   rw [h x (by simp),zf7 fun y hy=>h y (by simp [hy])]
   rfl
theorem flatMap_one {α β:Type} {f:α->List β} {a:α} : ∀ {l:List α},l.Nodup->a∈l->(∀x∈l,x≠a->f x=[])->l.flatMap f=f a
 | [],_,ha,_=>by simp at ha
 | x::l,hn,ha,h=>by
   obtain⟨h1,h2⟩:=List.nodup_cons.1 hn
   simp only [List.flatMap_cons]
   by_cases e:x=a
   ·subst e
    rw [zf7 fun y hy=>h y (by simp [hy]) fun e=>h1 (e ▸ hy),List.append_nil]
   ·rw [h x (by simp) e,List.nil_append]
    exact flatMap_one h2 ((List.mem_cons.1 ha).resolve_left (Ne.symm e)) fun y hy=>h y (by simp [hy])
theorem ztu {c:ChD} (h:Full c) {i:Nat} {s:StD} (hs:c.states[i]? =some s):bgL c i=i::(kidsL c i true).flatMap fun k=>if s.kind=2\/s.initial=(k:Nat) then bgL c k else []:=by
 rw [zuU h hs]
 congr 1
 rcases h.cases hs with⟨e,⟨e1,e2⟩ | ⟨j,hj,e2⟩⟩ | ⟨e,e1,_⟩ | ⟨e,e1,_⟩ | ⟨e,e1,_⟩
 ·rw [e1,if_neg (by omega),if_neg (by omega)]
  rfl
 ·rw [if_pos ⟨e,by omega⟩,e2,Int.toNat_natCast]
  rw [flatMap_one (zcD c i true) hj fun x _ hne=>by rw [if_neg]; omega]
  rw [if_pos (.inr rfl)]
 ·rw [if_neg (by omega),if_pos e]
  apply zbK
  intro k _
  rw [if_pos (.inl e)]
 ·rw [if_neg (by omega),if_neg (by omega),zi5 e1]
  rfl
 ·rw [if_neg (by omega),if_neg (by omega),zi5 e1]
  rfl
def sbL (c:ChD) (i:Nat):List Nat:=sortL c (zL (bgL c i))
end
section
open Go.RowKit
def manyI (act:List Int) (kids:List Nat):Nat:=(kids.filter fun k:Nat=>act.contains (k:Int)).length
theorem zl2 (act:List Int) (kids:List Nat):manyI act kids<=kids.length:=List.length_filter_le ..
def fitB (c:ChD) (act:List Int) (i:Nat) (s:StD):Bool:=
 !zaD s&&(decide (s.parent<0)||act.contains s.parent)&&
  (if s.kind=1/\kidsL c i true≠[] then manyI act (kidsL c i true)==1 else if s.kind=2 then manyI act (kidsL c i true)==(kidsL c i true).length else true)
def fitI (c:ChD) (act:List Int) (i:Int):Bool:=match at_ c i with
 | some s=>fitB c act i.toNat s
 | none=>false
def lgAt (c:ChD) (act:List Int) (n:Nat):Bool:=match act[n]? with
 | some i=>(n==0||decide (act.getD (n-1) 0<i))&&fitI c act i
 | none=>true
def zfa (c:ChD) (act:List Int):Int×Int:=match zaG (lgAt c act) act.length with
 | some n=>(1,max (act.getD n 0) (-1))
 | none=>if manyI act (kidsL c (-1) true)=1 then(0, -1) else(1, -1)
def lgB (c:ChD) (act:List Int):Bool:=(zfa c act).1==0
theorem zqu {c:ChD} {act:List Int} :lgB c act=true↔(∀n,n<act.length->lgAt c act n=true)/\manyI act (kidsL c (-1) true)=1:=by
 unfold lgB zfa
 cases h:zaG (lgAt c act) act.length with
 | some n=>
   refine⟨fun e=>by simp at e,fun e=> ?_⟩
   rw [zaF e.1] at h
   cases h
 | none=>
   simp only
   split
   ·rename_i e
    exact⟨fun _=>⟨fun n hn=>zbL h n hn,e⟩,fun _=>rfl⟩
   ·rename_i e
    exact⟨fun e2=>by simp at e2,fun e2=>absurd e2.2 e⟩
/-! What is active at first -/
def iniN (c:ChD):Nat:=c.initial.toNat
theorem Full.topS {c:ChD} (h:Full c): ∃s,c.states[iniN c]? =some s/\c.initial=(iniN c:Nat)/\s.parent= -1/\(s.kind=1\/s.kind=2):=by
 have:=h.ini
 unfold topB at this
 cases ha:at_ c c.initial with
 | none=>rw [ha] at this; simp at this
 | some s=>
   rw [ha] at this
   unfold at_ at ha
   split at ha
   ·rename_i h0
    refine⟨s,ha,by unfold iniN; omega, ?_⟩
    simp only [zcc,Bool.and_eq_true,beq_iff_eq,Bool.or_eq_true] at this
    exact⟨this.1,this.2⟩
   ·cases ha
theorem zmH {l:List Nat} {k:Nat} :(zL l).contains (k:Int)=true↔k∈l:=by
 rw [List.contains_iff_mem]
 unfold zL
 rw [List.mem_map]
 constructor
 ·rintro⟨j,h1,h2⟩
  have:j=k:=by omega
  exact this ▸ h1
 ·exact fun h=>⟨k,h,rfl⟩
/-! What begins is few -/
theorem zt9 {c:ChD} (h:Full c): ∀(n i m:Nat),i<c.states.length->c.states.length<=i+n->m∈bgL c i->m<c.states.length/\(m=i\/(i:Int)∈upL c m)
 | 0,i,m,hi,hn,_=>by omega
 | n+1,i,m,hi,hn,hm=>by
   obtain⟨s,hs⟩: ∃s,c.states[i]? =some s:=⟨c.states[i],List.getElem?_eq_getElem hi⟩
   rw [ztu h hs,List.mem_cons,List.mem_flatMap] at hm
   rcases hm with rfl | ⟨k,hk,hm⟩
   ·exact⟨hi, .inl rfl⟩
   ·have hg:=za5 h.toRight (zaW hk).1
    have hkp:=(zdY.1 (zaW hk).1).2
    have hup:(i:Int)∈upL c k:=(zbN h.toRight (zaS.2 hg.2)).2 (.inl hkp.symm)
    split at hm
    ·obtain⟨h1,h2⟩:=zt9 h n k m (by omega) (by omega) hm
     refine⟨h1, .inr ?_⟩
     rcases h2 with rfl | h2
     ·exact hup
     ·exact zec h.toRight (m+1) m k i (by omega) h2 hup
    ·simp at hm
theorem znI {c:ChD} (h:Full c): ∀(n i:Nat),i<c.states.length->c.states.length<=i+n->(bgL c i).Nodup
 | 0,i,hi,hn=>by omega
 | n+1,i,hi,hn=>by
   obtain⟨s,hs⟩: ∃s,c.states[i]? =some s:=⟨c.states[i],List.getElem?_eq_getElem hi⟩
   rw [ztu h hs,List.nodup_cons]
   have mem: ∀k∈kidsL c i true,∀m,m∈(if s.kind=2\/s.initial=(k:Nat) then bgL c k else [])->m<c.states.length/\(m=k\/(k:Int)∈upL c m):=fun k hk m hm=>by
    have hg:=za5 h.toRight (zaW hk).1
    split at hm
    ·exact zt9 h n k m (by omega) (by omega) hm
    ·simp at hm
   refine⟨fun hm=> ?_, ?_⟩
   ·obtain⟨k,hk,hm⟩:=List.mem_flatMap.1 hm
    have hg:=za5 h.toRight (zaW hk).1
    obtain⟨q1,q2⟩:=mem k hk i hm
    rcases q2 with e | e
    ·omega
    ·have:=zfs h.toRight 40 _ _ e
     omega
   ·have hnd:=zcD c i true
    rw [List.nodup_iff_pairwise_ne] at hnd
    rw [List.nodup_iff_pairwise_ne,List.pairwise_flatMap]
    refine⟨fun k hk=> ?_, ?_⟩
    ·have hg:=za5 h.toRight (zaW hk).1
     rw [<-List.nodup_iff_pairwise_ne]
     split
     ·exact znI h n k (by omega) (by omega)
     ·exact .nil
    ·refine List.Pairwise.imp_of_mem (R:=fun a b=>a≠b) ?_ hnd
     intro k1 k2 hk1 hk2 hne m1 hm1 m2 hm2 e
     subst e
     obtain⟨q1,q2⟩:=mem k1 hk1 m1 hm1
     obtain⟨_,q3⟩:=mem k2 hk2 m1 hm2
     exact hne (zl5 h.toRight (zaW hk1).1 (zaW hk2).1 (m1+1) m1 (by omega) q1 q2 q3)
theorem ztv {c:ChD} (h:Full c) {i:Nat} (hi:i<c.states.length):(bgL c i).length<=32:=by
 have hf:=h.few
 have:=(znI h 40 i hi (by omega)).length_le_of_subset (l₂:=List.range c.states.length) fun m hm=>List.mem_range.2 (zt9 h 40 i m hi (by omega) hm).1
 simp at this
 omega
theorem zte {c:ChD} (h:Full c) (i:Nat):(sbL c i).length<=32:=by
 have hf:=h.few
 have:=(zfw h.toRight (zL (bgL c i))).length_le_of_subset (l₂:=List.range c.states.length) fun m hm=>by
  unfold sortL at hm
  split at hm
  ·exact List.mem_range.2 ((zdh h.toRight m).1 (List.mem_filter.1 hm).1)
  ·simp at hm
 unfold sbL
 simp at this
 omega
end
section
open Go.RowKit
/-! The n-th ones -/
end
section
open Go.RowKit
/-! One more is none -/
end
section
open Go.RowKit Go.Extern.Stop Go.Stop Go.Extern
theorem Tryz.asvalueOf27 (t:Addr) (w:World):(ReflectliteValue.unpack (.iface 161 (.pointer (some t)))).run Tryz.prog w
 = .ok (.agg #[.pointer (some ⟨11,161,none⟩), .pointer (some ⟨w.heap.size,0,none⟩), .int .u64 150]) (w.alloc (.cells #[.pointer (some t)] 161)):=by kernel_rfl
theorem Tryz.astype27 (a:Addr) (w:World):(ReflectliteValue.methodAny (ReflectliteValue.valueError "reflectlite.Value.Type" 0) (fun t _ _ _=>ReflectliteType.toType t) #[.agg #[.pointer (some ⟨11,161,none⟩), .pointer (some a), .int .u64 150]]).run Tryz.prog w
 = .ok (.iface 297 (.agg #[.pointer (some ⟨11,161,none⟩)])) w:=by kernel_rfl
theorem Tryz.asmethodKind (h:Value) (w:World):(Go.method 509 297 (.agg #[h]) "Kind").run Tryz.prog w= .ok (367,h) w:=by kernel_rfl
theorem Tryz.askind27 (w:World):((ReflectliteType.abiMethod fun t=>(fun a:Nat=>Value.int IntKind.u8 (a:Int))<$>Rtype.kind t) #[.pointer (some ⟨11,161,none⟩)]).run Tryz.prog w= .ok (.int .u8 22) w:=by kernel_rfl
theorem Tryz.askind25 (w:World):((ReflectliteType.abiMethod fun t=>(fun a:Nat=>Value.int IntKind.u8 (a:Int))<$>Rtype.kind t) #[.pointer (some ⟨11,159,none⟩)]).run Tryz.prog w= .ok (.int .u8 22) w:=by kernel_rfl
theorem rlm (z:Sem Value) (f:TypeId->Addr->Nat->Nat->Sem Value) (v:Value):
 ReflectliteValue.method z f #[v]=(do match <-ReflectliteValue.parts v with | none=>z | some (t,a,fl)=>f t a fl (fl%32)):=rfl
theorem Tryz.asparts27 (a:Addr) (w:World):(ReflectliteValue.parts (.agg #[.pointer (some ⟨11,161,none⟩), .pointer (some a), .int .u64 150])).run Tryz.prog w= .ok (some (161,a,150)) w:=by kernel_rfl
theorem Tryz.asisNil27 (a p:Addr) (W:World) (ha:W.cell? a=some (.pointer (some p))):
 (ReflectliteValue.method (ReflectliteValue.valueError "reflectlite.Value.IsNil" 0) ReflectliteValue.isNil #[.agg #[.pointer (some ⟨11,161,none⟩), .pointer (some a), .int .u64 150]]).run Tryz.prog W= .ok (.bool false) W:=by
 rw [rlm]
 simp only [Sem.run_bind,Tryz.asparts27,Result.andThen]
 simp [ReflectliteValue.isNil,loadVar,isAgg,underlying,Tryz.underlying161,ha,Result.andThen]
theorem Tryz.asmethodElem (h:Value) (w:World):(Go.method 509 297 (.agg #[h]) "Elem").run Tryz.prog w= .ok (378, .agg #[h]) w:=by kernel_rfl
theorem Tryz.asmethodImplements (h:Value) (w:World):(Go.method 509 297 (.agg #[h]) "Implements").run Tryz.prog w= .ok (379, .agg #[h]) w:=by kernel_rfl
theorem Tryz.asmethodAssignableTo (h:Value) (w:World):(Go.method 509 297 (.agg #[h]) "AssignableTo").run Tryz.prog w= .ok (376, .agg #[h]) w:=by kernel_rfl
theorem Tryz.aselem27 (w:World):(ReflectliteType.method ReflectliteType.elem #[.agg #[.pointer (some ⟨11,161,none⟩)]]).run Tryz.prog w= .ok (.iface 297 (.agg #[.pointer (some ⟨11,159,none⟩)])) w:=by kernel_rfl
theorem Tryz.asimplements25 (w:World):(ReflectliteType.relation "Implements" ReflectliteType.implements_ #[.agg #[.pointer (some ⟨11,159,none⟩)], .iface 297 (.agg #[.pointer (some ⟨11,37,none⟩)])]).run Tryz.prog w= .ok (.bool true) w:=by kernel_rfl
theorem Tryz.astypeOf25 (v:Value) (w:World):(ReflectliteType.typeOf #[.iface 159 v]).run Tryz.prog w= .ok (.iface 297 (.agg #[.pointer (some ⟨11,159,none⟩)])) w:=by kernel_rfl
theorem Tryz.asassignable25 (w:World):(ReflectliteType.relation "AssignableTo" ReflectliteType.assignableTo #[.agg #[.pointer (some ⟨11,159,none⟩)], .iface 297 (.agg #[.pointer (some ⟨11,159,none⟩)])]).run Tryz.prog w= .ok (.bool true) w:=by kernel_rfl
theorem Tryz.asvalueOf25 (e:Addr) (w:World):(ReflectliteValue.unpack (.iface 159 (.pointer (some e)))).run Tryz.prog w
 = .ok (.agg #[.pointer (some ⟨11,159,none⟩), .pointer (some ⟨w.heap.size,0,none⟩), .int .u64 150]) (w.alloc (.cells #[.pointer (some e)] 159)):=by kernel_rfl
theorem Tryz.aselemOf27 (w:World):(Rtype.elem? 161).run Tryz.prog w= .ok (some 159) w:=by kernel_rfl
theorem Tryz.asmk25 (p:Addr) (w:World):(ReflectliteValue.mk 159 p ReflectliteValue.flagAddr).run Tryz.prog w= .ok (.agg #[.pointer (some ⟨11,159,none⟩), .pointer (some p), .int .u64 406]) w:=by kernel_rfl
theorem Tryz.aselemV27 (a p:Addr) (W:World) (ha:W.cell? a=some (.pointer (some p))):
 (ReflectliteValue.method (ReflectliteValue.valueError "reflectlite.Value.Elem" 0) ReflectliteValue.elem #[.agg #[.pointer (some ⟨11,161,none⟩), .pointer (some a), .int .u64 150]]).run Tryz.prog W
  = .ok (.agg #[.pointer (some ⟨11,159,none⟩), .pointer (some p), .int .u64 406]) W:=by
 rw [rlm]
 simp only [Sem.run_bind,Tryz.asparts27,Result.andThen]
 simp [ReflectliteValue.elem,loadVar,isAgg,underlying,Tryz.underlying161,ha,Result.andThen,Tryz.aselemOf27,Tryz.asmk25]
theorem rls (v x:Value):ReflectliteValue.set #[v,x]=(do
 let (some (dst,a,fl),some (src,b,_)):=(<-ReflectliteValue.parts v, <-ReflectliteValue.parts x)
  | unsupported (.noEntry "extern/(internal/reflectlite.Value).Set.zeroValue")
 if fl/ReflectliteValue.flagAddr%2==0 then unsupported (.noEntry "extern/(internal/reflectlite.Value).Set.unaddressable")
 let val <-loadVar src b
 if <-Rtype.directlyAssignable dst src then storeVar dst a val
 else if <-Rtype.implements dst src then
  if (<-Rtype.kind src)==20 then
   match val with
   | .nilIface=>unsupported (.noEntry "extern/reflectlite: a nil value of one interface type handed on as a value of another")
   | _=>storeVar dst a val
  else storeVar dst a (.iface src val)
 else panicString ("reflectlite.Set: value of type " ++(<-Rtype.spelt src)++ " is not assignable to type " ++(<-Rtype.spelt dst))
 pure (.tuple #[])):=rfl
theorem Tryz.asparts25a (a:Addr) (w:World):(ReflectliteValue.parts (.agg #[.pointer (some ⟨11,159,none⟩), .pointer (some a), .int .u64 406])).run Tryz.prog w= .ok (some (159,a,406)) w:=by kernel_rfl
theorem Tryz.asparts25 (a:Addr) (w:World):(ReflectliteValue.parts (.agg #[.pointer (some ⟨11,159,none⟩), .pointer (some a), .int .u64 150])).run Tryz.prog w= .ok (some (159,a,150)) w:=by kernel_rfl
theorem Tryz.asdirect25 (w:World):(Rtype.directlyAssignable 159 159).run Tryz.prog w= .ok true w:=by kernel_rfl
theorem Tryz.asset25 (ta b e:Addr) (old:Value) (W:World) (hb:W.cell? b=some (.pointer (some e))) (ht:W.cell? ta=some old) (hf:W.frozen? ta=false):
 (ReflectliteValue.set #[.agg #[.pointer (some ⟨11,159,none⟩), .pointer (some ta), .int .u64 406], .agg #[.pointer (some ⟨11,159,none⟩), .pointer (some b), .int .u64 150]]).run Tryz.prog W
  = .ok (.tuple #[]) (W.setCell ta (.pointer (some e))):=by
 rw [rls]
 simp only [Sem.run_bind,Tryz.asparts25a,Tryz.asparts25,Result.andThen]
 simp [ReflectliteValue.flagAddr,loadVar,isAgg,underlying,Tryz.underlying159,hb,Result.andThen,Tryz.asdirect25,storeVar,Value.cells,storeCells,Addr.add]
 rw [run_store Tryz.prog W ta _ _ (by rfl)]
 simp [ht,hf]
theorem zuW (e t:Addr) (old:Value) (w:World) (hg:w.cell? ⟨9,0,none⟩=some (.iface 297 (.agg #[.pointer (some ⟨11,37,none⟩)]))) (ht0:w.cell? t=some old) (hf0:w.frozen? t=false):
 Calls Tryz.prog 102 #[.iface 159 (.pointer (some e)), .iface 161 (.pointer (some t))] w fun ev w'=>ev= .returned (.bool true)/\w'=((((w.alloc (.cells #[.pointer (some t)] 161)).alloc (.cells #[.pointer (some ⟨11,161,none⟩), .pointer (some ⟨w.heap.size,0,none⟩), .int .u64 150] 239)).alloc (.cells #[.pointer (some ⟨11,161,none⟩), .pointer (some ⟨w.heap.size,0,none⟩), .int .u64 150] 239)).alloc (.cells #[.pointer (some e)] 159)).setCell t (.pointer (some e)):=by
 have h6:=@run_callFunc_extern Tryz.prog 181 _ (fun args=>ReflectliteValue.unpack (args.getD 0 (.tuple #[]))) Tryz.func181 (by kernel_rfl) (by kernel_rfl) (by kernel_rfl) (by kernel_rfl)
 have h7:=@run_callFunc_extern Tryz.prog 182 _ (ReflectliteValue.methodAny (ReflectliteValue.valueError "reflectlite.Value.Type" 0) (fun t _ _ _=>ReflectliteType.toType t)) Tryz.func182 (by kernel_rfl) (by kernel_rfl) (by kernel_rfl) (by kernel_rfl)
 have h8:=@run_callFunc_extern Tryz.prog 183 _ (ReflectliteValue.method (ReflectliteValue.valueError "reflectlite.Value.IsNil" 0) ReflectliteValue.isNil) Tryz.func183 (by kernel_rfl) (by kernel_rfl) (by kernel_rfl) (by kernel_rfl)
 have h27:=@run_callFunc_extern Tryz.prog 367 _ (ReflectliteType.abiMethod fun t=>do pure (.int .u8 (<-Rtype.kind t))) Tryz.func367 (by kernel_rfl) (by kernel_rfl) (by kernel_rfl) (by kernel_rfl)
 have h37:=@run_callFunc_extern Tryz.prog 378 _ (ReflectliteType.method ReflectliteType.elem) Tryz.func378 (by kernel_rfl) (by kernel_rfl) (by kernel_rfl) (by kernel_rfl)
 have h38:=@run_callFunc_extern Tryz.prog 379 _ (ReflectliteType.relation "Implements" ReflectliteType.implements_) Tryz.func379 (by kernel_rfl) (by kernel_rfl) (by kernel_rfl) (by kernel_rfl)
 have h10:=@run_callFunc_extern Tryz.prog 185 _ ReflectliteType.typeOf Tryz.func185 (by kernel_rfl) (by kernel_rfl) (by kernel_rfl) (by kernel_rfl)
 have h35:=@run_callFunc_extern Tryz.prog 376 _ (ReflectliteType.relation "AssignableTo" ReflectliteType.assignableTo) Tryz.func376 (by kernel_rfl) (by kernel_rfl) (by kernel_rfl) (by kernel_rfl)
 have h11:=@run_callFunc_extern Tryz.prog 243 _ (ReflectliteValue.method (ReflectliteValue.valueError "reflectlite.Value.Elem" 0) ReflectliteValue.elem) Tryz.func243 (by kernel_rfl) (by kernel_rfl) (by kernel_rfl) (by kernel_rfl)
 have h12:=@run_callFunc_extern Tryz.prog 244 _ ReflectliteValue.set Tryz.func244 (by kernel_rfl) (by kernel_rfl) (by kernel_rfl) (by kernel_rfl)
 have tO:=Tryz.astypeOf25
 have mA:=Tryz.asmethodAssignableTo
 have a25:=Tryz.asassignable25
 have v25:=Tryz.asvalueOf25
 have f6:=Tryz.asvalueOf27
 have f7:=Tryz.astype27
 have mK:=Tryz.asmethodKind
 have mE:=Tryz.asmethodElem
 have mI:=Tryz.asmethodImplements
 have k27:=Tryz.askind27
 have k25:=Tryz.askind25
 have e27:=Tryz.aselem27
 have i25:=Tryz.asimplements25
 have n8:=Tryz.asisNil27 ⟨w.heap.size,0,none⟩ t ((w.alloc (.cells #[.pointer (some t)] 161)).alloc (.cells #[.pointer (some ⟨11,161,none⟩), .pointer (some ⟨w.heap.size,0,none⟩), .int .u64 150] 239)) (by simp)
 have hlt:9<w.heap.size:=zfN hg
 have hg2:((w.alloc (.cells #[.pointer (some t)] 161)).alloc (.cells #[.pointer (some ⟨11,161,none⟩), .pointer (some ⟨w.heap.size,0,none⟩), .int .u64 150] 239)).cell? ⟨9,0,none⟩=some (.iface 297 (.agg #[.pointer (some ⟨11,37,none⟩)])):=by
  rw [World.cell?_alloc_lt _ _ ⟨9,0,none⟩ (by simp; omega),World.cell?_alloc_lt _ _ ⟨9,0,none⟩ hlt]; exact hg
 have htl:t.block<w.heap.size:=by
  rcases Nat.lt_or_ge t.block w.heap.size with h | h
  ·exact h
  ·simp [World.cell?,Array.getElem?_eq_none h] at ht0
 have el:=Tryz.aselemV27 ⟨w.heap.size,0,none⟩ t (((w.alloc (.cells #[.pointer (some t)] 161)).alloc (.cells #[.pointer (some ⟨11,161,none⟩), .pointer (some ⟨w.heap.size,0,none⟩), .int .u64 150] 239)).alloc (.cells #[.pointer (some ⟨11,161,none⟩), .pointer (some ⟨w.heap.size,0,none⟩), .int .u64 150] 239)) (by rw [World.cell?_alloc_lt _ _ ⟨w.heap.size,0,none⟩ (by simp; omega)]; simp)
 have st:=Tryz.asset25 t ⟨w.heap.size+1+1+1,0,none⟩ e old ((((w.alloc (.cells #[.pointer (some t)] 161)).alloc (.cells #[.pointer (some ⟨11,161,none⟩), .pointer (some ⟨w.heap.size,0,none⟩), .int .u64 150] 239)).alloc (.cells #[.pointer (some ⟨11,161,none⟩), .pointer (some ⟨w.heap.size,0,none⟩), .int .u64 150] 239)).alloc (.cells #[.pointer (some e)] 159))
  (by rw [World.cell?_alloc_at _ _ _ _ (by simp)]; rfl)
  (by rw [World.cell?_alloc_lt _ _ t (by simp; omega),World.cell?_alloc_lt _ _ t (by simp; omega),World.cell?_alloc_lt _ _ t (by simp; omega),World.cell?_alloc_lt _ _ t htl]; exact ht0)
  (by rw [World.frozen?_alloc_old _ _ t (by simp; omega),World.frozen?_alloc_old _ _ t (by simp; omega),World.frozen?_alloc_old _ _ t (by simp; omega),World.frozen?_alloc_old _ _ t (Nat.ne_of_lt htl)]; exact hf0)
 go_enter Tryz.func102,Tryz.ntmps102
 go_wp2
 refine wp_loop_rounds 1 ?_
 rw [rounds_succ]
 go_wp2
 go_ret
 exact⟨rfl,rfl⟩
end
section
open Go.RowKit
abbrev errT:Value:= .iface 297 (.agg #[.pointer (some ⟨11,37,none⟩)])
theorem zs3 (e t:Addr) (old:Value) (w:World) (hg:w.cell? ⟨9,0,none⟩=some errT) (ht0:w.cell? t=some old) (hf0:w.frozen? t=false) (hs:t.spot=none):
 Calls Tryz.prog 102 #[.iface 159 (.pointer (some e)), .iface 161 (.pointer (some t))] w fun ev w'=>ev= .returned (.bool true)/\w'.cell? t=some (.pointer (some e))/\Below t.block w w':=by
 refine(zuW e t old w hg ht0 hf0).mono ?_
 rintro ev w' ⟨rfl,rfl⟩
 have hlt:t.block<w.heap.size:=by
  obtain⟨b,o,sp⟩:=t
  cases hs
  exact zfN ht0
 refine⟨rfl, ?_, ?_⟩
 ·refine World.cell?_setCell_same (u:=old) _ _ _ ?_
  rw [World.cell?_alloc_lt _ _ t (by simp; omega),World.cell?_alloc_lt _ _ t (by simp; omega),World.cell?_alloc_lt _ _ t (by simp; omega),World.cell?_alloc_lt _ _ t hlt,ht0]
 ·exact(((((Below.refl _ _).alloc (by omega) _).alloc (by simp; omega) _).alloc (by simp; omega) _).alloc (by simp; omega) _).setCell (Nat.le_refl _) _
theorem ztL (pb po:Nat) (p:Int) (w:World) (hp:w.cell? ⟨pb,po+1,none⟩=some (.int .i64 p)) (h0:0<=p) (hg:w.cell? ⟨9,0,none⟩=some errT):
 Calls Tryz.prog 40 #[.iface 159 (.pointer (some ⟨pb,po,none⟩))] w fun e w'=>e= .returned (.int .i64 p)/\Below w.heap.size w w':=by
 have hb0:=(Below.refl w.heap.size w).alloc (Nat.le_refl _) (.cells #[.pointer none] 159)
 have G0:=Lib.hid (cell_below hg hb0)
 have P0:=Lib.hid (cell_below hp hb0)
 have B0:=Lib.hid hb0
 have hpb:=zfN hp
 try clear hb0 hg hp
 go_enter Tryz.func40,Tryz.ntmps40
 go_wp2_with fail
 refine wp_loop_rounds 1 ?_
 rw [rounds_succ]
 go_wp2_with fail
 refine(zs3 ⟨pb,po,none⟩ ⟨w.heap.size,0,none⟩ (.pointer none) _ G0.out (by simp) ((Whole.new w 159 #[.pointer none]).frozen 0) rfl).mono ?_
 rintro e w2 ⟨rfl,hc,hb⟩
 have hp2:w2.cell? ⟨pb,po+1,none⟩=some (.int .i64 p):=(hb.cell (p:=⟨pb,po+1,none⟩) hpb).trans P0.out
 have B2:=Lib.hid (B0.out.trans hb)
 try clear hb
 go_wp2_with fail
 go_ret
 exact⟨rfl,B2.out⟩
theorem zsd (env:Env) (he:env 9=some (.lit errT)) (p:Int) (h0:0<=p) (e:AV):Con Tryz.prog env 40 [errV p e] (I p):=
 zmp Tryz.call40 fun w S vs hE hl hv=>by
  match vs,hl with
  | [v],_=>
    obtain⟨u,h1,_,_,h4⟩:=hE.env _ _ he
    rw [h4.lit_inv] at h1
    have hr:=hv 0 v _ rfl rfl
    cases hr with
    | iface t v c h=>
      cases h with
      | ref sz es i off b o u hz hc hrv=>
        have h2:=(hc 0 1 (I p) rfl).2.1
        rw [(hrv 0 1 (I p) rfl).lit_inv] at h2
        have:=ztL b (o+(0*3+0)) p w (by simpa using h2) h0 h1
        exact this
end
section
open Go.RowKit
abbrev smallCs (k:Int):Array Value:= #[.string ⟨#[97]⟩, .int .i64 1, .int .i64 (-1), .int .i64 k, .slice none 0 0, .slice none 0 0, .string ⟨#[98]⟩, .int .i64 1, .int .i64 0, .int .i64 (-1), .slice none 0 0, .slice none 0 0]
def zmF (w:World) (g:Nat) (k:Int):Prop:= ∀i v,(smallCs k)[i]? =some v->w.cell? ⟨g,i,none⟩=some v
theorem zmF.below {w w':World} {g:Nat} {k:Int} (h:zmF w g k) (hb:Below w.heap.size w w'):zmF w' g k:=fun i v hi=>cell_below (h i v hi) hb
theorem EnvOk.all {env:Env} {S:Nat->Nat->Prop} {w:World} (h:EnvOk env S w):EnvOk env (fun b _=>b<w.heap.size) w:=⟨h.inv,fun _ _ h=>h,fun g c hg=>by
 obtain⟨u,h1,h2,h3,h4⟩:=h.env g c hg
 exact⟨u,h1,h2,h.low _ _ h3,h4.mono fun b o hb=>⟨h.low _ _ hb, .rfl⟩⟩⟩
theorem EnvOk.belowA {env:Env} {w w':World} (h:EnvOk env (fun b _=>b<w.heap.size) w) (hb:Below w.heap.size w w'):EnvOk env (fun b _=>b<w'.heap.size) w':=⟨env.up _ _ h.inv hb,fun _ _ h=>h,fun g c hg=>by
 obtain⟨u,h1,h2,h3,h4⟩:=h.env g c hg
 exact⟨u,cell_below h1 hb,h2,Nat.lt_of_lt_of_le h3 hb.size,h4.mono fun b o (hbo:b<_)=>⟨Nat.lt_of_lt_of_le hbo hb.size,hb.stay hbo⟩⟩⟩
theorem zsS {P:Program} {env:Env} {f:FuncId} {cs:List AV} {res:AV} {w:World} {vs:List Value} (h:Con P env f cs res) (hE:EnvOk env (fun b _=>b<w.heap.size) w) (hres: ∀e sz es,res≠ .own e sz es) (hv:RAs (fun b _=>b<w.heap.size) w vs cs):
 Calls P f vs.toArray w fun e w'=> ∃v,e= .returned v/\Below w.heap.size w w'/\EnvOk env (fun b _=>b<w'.heap.size) w'/\RV (fun b _=>b<w'.heap.size) w' v res:=by
 obtain⟨h1,h2⟩:=hv.at_
 refine(h.calls w _ vs hE h1 h2).mono ?_
 rintro e w' ⟨v,rfl,hb,S',_,_,hlt,hr⟩
 refine⟨v,rfl,hb,hE.belowA hb, ?_⟩
 have hr':RV S' w' v res:=by
  cases res with
  | own e sz es=>exact(hres e sz es rfl).elim
  | _=>exact hr
 exact hr'.mono fun b o hbo=>⟨hlt b o hbo, .rfl⟩
end
section
open Go.RowKit
end
section
open Go.RowKit
end
section
open Go.RowKit
structure ChEnv (env:Env) (a1 a8:Addr):Prop where
 e1:env 1=some (sentV a1)
 e8:env 7=some (sentV a8)
def zd3 (a1 a8:Addr) (l:List OpD) (vs ss:Int):AV:=if zev l vs ss=0 then nilE else if zev l vs ss=8 then errV (-1) (sentV a8) else errV (-1) (sentV a1)
theorem zik {l:List OpD} (vs ss:Int) (h:32<l.length):zev l vs ss=8:=by unfold zev; rw [if_pos h]
theorem zlc {l:List OpD} {vs ss:Int} (h: ¬32<l.length) (hh:hgt vs ss l 0=some 1):zev l vs ss=0:=by unfold zev; rw [if_neg h,if_pos hh]
theorem zgt {l:List OpD} {vs ss:Int} (h: ¬32<l.length) (hh:hgt vs ss l 0≠some 1):zev l vs ss=1:=by unfold zev; rw [if_neg h,if_neg hh]
theorem zjQ {vs ss n:Int} {o:OpD} (h:zbt vs ss n o=true): ¬zae o.kind<0/\ ¬n<zae o.kind/\numB o vs ss=true:=by
 simp only [zbt,Bool.and_eq_true,decide_eq_true_eq] at h
 exact⟨by omega,by omega,h.2⟩
theorem zhU {vs ss n:Int} {o:OpD} (h:zbt vs ss n o=false):zae o.kind<0\/(¬zae o.kind<0/\n<zae o.kind)\/(¬zae o.kind<0/\ ¬n<zae o.kind/\numB o vs ss=false):=by
 by_cases a:zae o.kind<0
 ·exact .inl a
 by_cases b:n<zae o.kind
 ·exact .inr (.inl ⟨a,b⟩)
 refine .inr (.inr ⟨a,b, ?_⟩)
 have e1:0<=zae o.kind:=by omega
 have e2:zae o.kind<=n:=by omega
 simpa [zbt,e1,e2] using h
theorem zey (env:Env) (a1 a8:Addr) (he:ChEnv env a1 a8) (l:List OpD) (vs ss:Int):Con Tryz.prog env 292 [opsAV l,I vs,I ss] (zd3 a1 a8 l vs ss):=by
 have g1:=zhf he.e1
 have g8:=zhf he.e8
 refine zaa Tryz.func292 rfl Tryz.call292 (by rw [Tryz.ntmps292]; simp) ?_
 rw [Tryz.ntmps292,Tryz.results292]
 by_cases hl:32<l.length
 ·have hL:(32:Int)<l.length:=by omega
  rw [show zd3 a1 a8 l vs ss=errV (-1) (sentV a8) by unfold zd3; rw [zik vs ss hl]; rfl]
  have F:=ai hL<|g8
  repeat (first | refine st ?_ | refine cC (zb4 env _ a8) ?_)
  exact aR
 have hL: ¬(32:Int)<l.length:=by omega
 have F:=hL
 repeat refine st ?_
 refine zac (D:=Nat×Int) (fun d _=>[(1,I vs),(2,I ss),(7,I d.2),(16,opsAV l),(17,I l.length),(18,I d.1)]) (fun _ _=>[]) (fun d _ _=>d.1<=l.length/\hgt vs ss l 0=hgt vs ss (l.drop d.1) d.2/\0<=d.2/\d.2<=d.1) (fun d=>l.length-d.1) (0,0) ?_ ?_ ?_ ?_
 ·exact⟨Nat.zero_le _,rfl,Int.le_refl _,Int.le_refl _⟩
 ·(simp only [go_sem,F])
 ·(simp only [go_sem,F])
 rintro⟨i,n⟩ ws esc ⟨hi,hh,h0,hn⟩
 simp only at hi hh h0 hn
 by_cases hlt:i<l.length
 ·obtain⟨o,ho,_⟩:=zat hlt
  obtain⟨up,no⟩:=zjh ho hh
  have k1:=nlt hlt
  have k2:=zab hlt (by omega)
  have hop:=zdV o.kind
  cases hok:zbt vs ss n o with
  | true=>
    obtain⟨b1,b2,b3⟩:=zjQ hok
    have w1:IntKind.i64.wrap (1-zae o.kind)=1-zae o.kind:=zaC (by omega) (by omega)
    have w2:IntKind.i64.wrap (n+(1-zae o.kind))=n+(1-zae o.kind):=zaC (by omega) (by omega)
    have F:=ai k1<|ai k2<|ai ho<|ai opAV.eq_1<|ai b1<|ai b2<|ai b3<|ai w1<|w2
    repeat (first | refine st ?_ | refine cC (zcr env o.kind) ?_ | refine cC (zdn env o vs ss) ?_)
    refine⟨(i+1,n+(1-zae o.kind)),⟨by simp only; omega, ?_,by simp only; omega,by simp only; omega⟩, ?_, ?_, ?_⟩
    ·simp only
     rw [up hok]
     congr 1
     omega
    ·(simp only [go_sem,F])
    ·(simp only [go_sem,F])
    ·simp only; omega
  | false=>
    rw [show zd3 a1 a8 l vs ss=errV (-1) (sentV a1) by unfold zd3; rw [zgt hl (by rw [no hok]; simp)]; rfl]
    rcases zhU hok with b1 | ⟨b1,b2⟩ | ⟨b1,b2,b3⟩
    ·have F:=ai k1<|ai k2<|ai ho<|ai opAV.eq_1<|ai b1<|g1
     repeat (first | refine st ?_ | refine cC (zcr env o.kind) ?_ | refine cC (zdn env o vs ss) ?_ | refine cC (zb4 env _ a1) ?_)
     exact aR
    ·have F:=ai k1<|ai k2<|ai ho<|ai opAV.eq_1<|ai b1<|ai b2<|g1
     repeat (first | refine st ?_ | refine cC (zcr env o.kind) ?_ | refine cC (zdn env o vs ss) ?_ | refine cC (zb4 env _ a1) ?_)
     exact aR
    ·have F:=ai k1<|ai k2<|ai ho<|ai opAV.eq_1<|ai b1<|ai b2<|ai b3<|g1
     repeat (first | refine st ?_ | refine cC (zcr env o.kind) ?_ | refine cC (zdn env o vs ss) ?_ | refine cC (zb4 env _ a1) ?_)
     exact aR
 ·have k1: ¬(i:Int)< (l.length:Int):=by omega
  have hend:=zma (by omega) hh
  by_cases h1:n=1
  ·subst h1
   rw [show zd3 a1 a8 l vs ss=nilE by unfold zd3; rw [zlc hl hend]; rfl]
   have F:=ai k1<|g1
   repeat (first | refine st ?_ | refine cC (zb4 env _ a1) ?_)
   exact aR
  ·rw [show zd3 a1 a8 l vs ss=errV (-1) (sentV a1) by unfold zd3; rw [zgt hl (by rw [hend]; simpa using h1)]; rfl]
   have k2:(n != 1)=true:=by simpa using h1
   have F:=ai k1<|ai k2<|g1
   repeat (first | refine st ?_ | refine cC (zb4 env _ a1) ?_)
   exact aR
theorem zex (env:Env) (l:List OpD) (vs ss:Int):Con Tryz.prog env 246 [opsAV l,I vs,I ss] (I (zev l vs ss)):=by
 refine zaa Tryz.func246 rfl Tryz.call246 (by rw [Tryz.ntmps246]; simp) ?_
 rw [Tryz.ntmps246,Tryz.results246]
 by_cases hl:32<l.length
 ·have hL:(32:Int)<l.length:=by omega
  rw [zik vs ss hl]
  have F:=hL
  repeat refine st ?_
  exact aR
 have hL: ¬(32:Int)<l.length:=by omega
 have F:=hL
 repeat refine st ?_
 refine zac (D:=Nat×Int) (fun d _=>[(0,opsAV l),(1,I vs),(2,I ss),(7,I d.2),(8,I d.1)]) (fun _ _=>[]) (fun d _ _=>d.1<=l.length/\hgt vs ss l 0=hgt vs ss (l.drop d.1) d.2/\0<=d.2/\d.2<=d.1) (fun d=>l.length-d.1) (0,0) ?_ ?_ ?_ ?_
 ·exact⟨Nat.zero_le _,rfl,Int.le_refl _,Int.le_refl _⟩
 ·(simp only [go_sem,F])
 ·(simp only [go_sem,F])
 rintro⟨i,n⟩ ws esc ⟨hi,hh,h0,hn⟩
 simp only at hi hh h0 hn
 by_cases hlt:i<l.length
 ·obtain⟨o,ho,_⟩:=zat hlt
  obtain⟨up,no⟩:=zjh ho hh
  have k1:=nlt hlt
  have k2:=zab hlt (by omega)
  have hop:=zdV o.kind
  cases hok:zbt vs ss n o with
  | true=>
    obtain⟨b1,b2,b3⟩:=zjQ hok
    have w1:IntKind.i64.wrap (n-zae o.kind)=n-zae o.kind:=zaC (by omega) (by omega)
    have w2:IntKind.i64.wrap (n-zae o.kind+1)=n-zae o.kind+1:=zaC (by omega) (by omega)
    have F:=ai k1<|ai k2<|ai ho<|ai opAV.eq_1<|ai b1<|ai b2<|ai b3<|ai w1<|w2
    repeat (first | refine st ?_ | refine cC (zbR env o.kind) ?_ | refine cC (zdl env o vs ss) ?_)
    refine⟨(i+1,n-zae o.kind+1),⟨by simp only; omega,up hok,by simp only; omega,by simp only; omega⟩, ?_, ?_, ?_⟩
    ·(simp only [go_sem,F])
    ·(simp only [go_sem,F])
    ·simp only; omega
  | false=>
    rw [zgt hl (by rw [no hok]; simp)]
    rcases zhU hok with b1 | ⟨b1,b2⟩ | ⟨b1,b2,b3⟩
    ·have F:=ai k1<|ai k2<|ai ho<|ai opAV.eq_1<|b1
     repeat (first | refine st ?_ | refine cC (zbR env o.kind) ?_ | refine cC (zdl env o vs ss) ?_)
     exact aR
    ·have F:=ai k1<|ai k2<|ai ho<|ai opAV.eq_1<|ai b1<|b2
     repeat (first | refine st ?_ | refine cC (zbR env o.kind) ?_ | refine cC (zdl env o vs ss) ?_)
     exact aR
    ·have F:=ai k1<|ai k2<|ai ho<|ai opAV.eq_1<|ai b1<|ai b2<|b3
     repeat (first | refine st ?_ | refine cC (zbR env o.kind) ?_ | refine cC (zdl env o vs ss) ?_)
     exact aR
 ·have k1: ¬(i:Int)< (l.length:Int):=by omega
  have hend:=zma (by omega) hh
  by_cases h1:n=1
  ·subst h1
   rw [zlc hl hend]
   have F:=k1
   repeat refine st ?_
   exact aR
  ·rw [zgt hl (by rw [hend]; simpa using h1)]
   have k2:(n != 1)=true:=by simpa using h1
   have F:=ai k1<|k2
   repeat refine st ?_
   exact aR
end

end Go.Proofs.YtnbjaghjdeicmaaGreatDoor