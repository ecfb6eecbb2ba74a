/- Contracts of the document's saying whether charts are the same: by the walk without memory. -/
import Derived.Test.YtnbjaghjdeicmaaGreatDoorG9
import Derived.Test.YtnbjaghjdeicmaaGreatDoorG5
import Derived.Test.YtnbjaghjdeicmaaGreatDoorG6
import Derived.Test.YtnbjaghjdeicmaaGreatDoorG8
import Derived.WalkKit
import Derived.LaidEql
import Derived.Stop.Asserts
import Derived.RowKitTokens
set_option maxRecDepth 100000
set_option maxHeartbeats 8000000
set_option linter.unusedSimpArgs false
namespace Go.Proofs.YtnbjaghjdeicmaaGreatDoor
section
open Go.RowKit
def inZ (c:ChD) (i:Int):Bool:=decide (0<=i)&&decide (i<c.states.length)
def parZ (c:ChD) (i:Int):Int:=match at_ c i with
 | some s=>s.parent
 | none=> -1
theorem zan {c:ChD} {i:Int} :inZ c i=true↔0<=i/\i<c.states.length:=by
 unfold inZ
 rw [Bool.and_eq_true,decide_eq_true_eq,decide_eq_true_eq]
theorem zbF {c:ChD} {k:Nat} :inZ c k=true↔k<c.states.length:=by rw [zan]; omega
theorem zce (c:ChD) (k:Nat):at_ c k=c.states[k]? :=by unfold at_; rw [if_pos (by omega),Int.toNat_natCast]
theorem zfh {c:ChD} {i:Int} (h:inZ c i=true): ∃k s,i=(k:Nat)/\c.states[k]? =some s/\at_ c i=some s:=by
 obtain⟨h1,h2⟩:=zan.1 h
 have hk:i.toNat<c.states.length:=by omega
 refine⟨i.toNat,c.states[i.toNat],by omega,List.getElem?_eq_getElem hk, ?_⟩
 unfold at_
 rw [if_pos h1,List.getElem?_eq_getElem hk]
theorem zcn {c:ChD} (h:Right c) {i:Int} (hi:inZ c i=true): -1<=parZ c i/\parZ c i<i:=by
 obtain⟨k,s,rfl,h1,h2⟩:=zfh hi
 unfold parZ
 rw [h2]
 exact h.par k s h1
theorem zdN {c:ChD} {k:Nat} {s:StD} (h:c.states[k]? =some s):parZ c k=s.parent:=by
 unfold parZ
 rw [zce,h]
/-! The way up -/
def upF (c:ChD):Nat->Int->List Int
 | 0,_=>[]
 | f+1,i=>if inZ c i=true then parZ c i::upF c f (parZ c i) else []
def upL (c:ChD) (i:Int):List Int:=upF c 40 i
theorem zeu {c:ChD} {i:Int} (h:inZ c i=false) (f:Nat):upF c f i=[]:=by
 cases f with
 | zero=>rfl
 | succ f=>unfold upF; rw [h]; simp
theorem zn8 {c:ChD} (h:Right c): ∀(f g:Nat) (i:Int),i<f->i<g->upF c f i=upF c g i
 | 0,g,i,h1,h2=>by
   have:inZ c i=false:=by
    cases hh:inZ c i
    ·rfl
    ·have:=zan.1 hh; omega
   rw [zeu this,zeu this]
 | f+1,g,i,h1,h2=>by
   cases hh:inZ c i with
   | false=>rw [zeu hh,zeu hh]
   | true=>
     have h0:=(zan.1 hh).1
     obtain⟨g',rfl⟩: ∃g',g=g'+1:=⟨g-1,by omega⟩
     have:=zcn h hh
     unfold upF
     rw [hh]
     simp only [if_true]
     rw [zn8 h f g' (parZ c i) (by omega) (by omega)]
theorem zcw {c:ChD} {i:Int} (h:inZ c i=false):upL c i=[]:=zeu h _
theorem zit {c:ChD} (h:Right c) {i:Int} (hi:inZ c i=true):upL c i=parZ c i::upL c (parZ c i):=by
 have hf:=h.few
 have h2:=zan.1 hi
 have h3:=zcn h hi
 show upF c (39+1) i=parZ c i::upF c 40 (parZ c i)
 rw [show upF c (39+1) i=if inZ c i=true then parZ c i::upF c 39 (parZ c i) else [] from rfl,if_pos hi,zn8 h 39 40 _ (by omega) (by omega)]
theorem zgG {c:ChD} (h:Right c): ∀(f:Nat) (i:Int) (k:Int),k∈upF c f i-> -1<=k/\k<i
 | 0,i,k,hk=>by simp [upF] at hk
 | f+1,i,k,hk=>by
   cases hh:inZ c i with
   | false=>rw [zeu hh] at hk; simp at hk
   | true=>
     have:=zcn h hh
     unfold upF at hk
     rw [hh] at hk
     simp only [if_true,List.mem_cons] at hk
     rcases hk with rfl | hk
     ·exact this
     ·have:=zgG h f _ k hk
      omega
theorem zdp {c:ChD} (h:Right c) {i:Int} (hi:inZ c i=true) {k:Int} :k∈upL c i↔k=parZ c i\/k∈upL c (parZ c i):=by rw [zit h hi,List.mem_cons]
theorem zjk {c:ChD} : ∀(f:Nat) (i:Int),(upF c f i).length<=f
 | 0,i=>by simp [upF]
 | f+1,i=>by
   unfold upF
   split
   ·have:=zjk (c:=c) f (parZ c i); simp; omega
   ·simp
theorem zkN {c:ChD} (h:Right c): ∀(n:Nat) (i:Int),inZ c i=true->i<n-> -1∈upL c i
 | 0,i,hi,hn=>by have:=zan.1 hi; omega
 | n+1,i,hi,hn=>by
   rw [zdp h hi]
   have hp:=zcn h hi
   by_cases e:parZ c i= -1
   ·exact .inl e.symm
   ·have h2:=zan.1 hi
    exact .inr (zkN h n _ (zan.2 (by omega)) (by omega))
theorem zis {c:ChD} (h:Right c): ∀(n:Nat) (i j k:Int),i<n->j∈upL c i->k∈upL c j->k∈upL c i
 | 0,i,j,k,hn,hj,hk=>by
   cases hh:inZ c i with
   | false=>rw [zcw hh] at hj; simp at hj
   | true=>have:=zan.1 hh; omega
 | n+1,i,j,k,hn,hj,hk=>by
   cases hh:inZ c i with
   | false=>rw [zcw hh] at hj; simp at hj
   | true=>
     rw [zdp h hh] at hj |-
     have hp:=zcn h hh
     rcases hj with rfl | hj
     ·exact .inr hk
     ·exact .inr (zis h n _ j k (by omega) hj hk)
/-! What is above a state, as bits -/
def zo5 (c:ChD):Nat->Int->Nat
 | 0,_=>0
 | f+1,i=>if inZ c i=true then(if 0<=parZ c i then zo5 c f (parZ c i)||| 2^(parZ c i).toNat else 0) else 0
theorem ziQ {c:ChD} (h:Right c): ∀(f:Nat) (i:Int) (k:Nat),(zo5 c f i).testBit k=decide ((k:Int)∈upF c f i)
 | 0,i,k=>by simp [zo5,upF]
 | f+1,i,k=>by
   unfold zo5 upF
   cases hh:inZ c i with
   | false=>simp
   | true=>
     simp only [if_true]
     have hp:=zcn h hh
     by_cases e:0<=parZ c i
     ·rw [if_pos e,Nat.testBit_or,ziQ h f,Nat.testBit_two_pow]
      by_cases e2:(k:Int)=parZ c i
      ·have:(parZ c i).toNat=k:=by omega
       simp [e2,this]
      ·have: ¬(parZ c i).toNat=k:=by omega
       simp [e2,this]
     ·rw [if_neg e]
      have hm:parZ c i= -1:=by omega
      have hz:inZ c (-1)=false:=by
       cases hq:inZ c (-1)
       ·rfl
       ·have:=zan.1 hq; omega
      rw [hm,zeu hz]
      simp
def mask (c:ChD) (i:Int):Nat:=zo5 c 40 i
theorem ziR {c:ChD} (h:Right c) (i:Int) (k:Nat):(mask c i).testBit k=decide ((k:Int)∈upL c i):=ziQ h 40 i k
theorem zfr {c:ChD} (h:Right c) {i:Int} (hi:i<32):mask c i<2^32:=by
 apply Nat.lt_pow_two_of_testBit
 intro k hk
 rw [ziR h]
 simp only [decide_eq_false_iff_not]
 intro hm
 have:=zgG h 40 i k hm
 omega
theorem zjQ {c:ChD} (h:Right c) {i:Int} (hi:inZ c i=true):mask c i=if 0<=parZ c i then mask c (parZ c i)||| 2^(parZ c i).toNat else 0:=by
 apply Nat.eq_of_testBit_eq
 intro k
 have hp:=zcn h hi
 rw [ziR h,zit h hi]
 by_cases e:0<=parZ c i
 ·rw [if_pos e,Nat.testBit_or,ziR h,Nat.testBit_two_pow]
  by_cases e2:(k:Int)=parZ c i
  ·have:(parZ c i).toNat=k:=by omega
   simp [e2,this]
  ·have: ¬(parZ c i).toNat=k:=by omega
   simp [e2,this]
 ·rw [if_neg e]
  have hm:parZ c i= -1:=by omega
  have hz:inZ c (-1)=false:=by
   cases hq:inZ c (-1)
   ·rfl
   ·have:=zan.1 hq; omega
  rw [hm,zcw hz]
  simp
theorem zbM {α β:Type} {f g:α->List β} : ∀ {l:List α},(∀x∈l,f x=g x)->l.flatMap f=l.flatMap g
 | [],_=>rfl
 | x::l,h=>by
   simp only [List.flatMap_cons]
   rw [h x (by simp),zbM fun y hy=>h y (by simp [hy])]
/-! The walk -/
def ziq (c:ChD):Nat->Int->List Nat
 | 0,_=>[]
 | f+1,i=>(kidsL c i false).flatMap fun k=>k::ziq c f k
def walkL (c:ChD) (i:Int):List Nat:=ziq c 40 i
theorem zft {c:ChD} {i:Int} {k:Nat} :k∈kidsL c i false↔k<c.states.length/\parZ c k=i:=by
 unfold kidsL zbl
 rw [List.mem_filter,List.mem_range]
 constructor
 ·rintro⟨h1,h2⟩
  obtain⟨s,hs⟩: ∃s,c.states[k]? =some s:=⟨c.states[k],List.getElem?_eq_getElem h1⟩
  refine⟨h1, ?_⟩
  unfold zcW at h2
  rw [hs] at h2
  rw [zdN hs]
  simpa using h2
 ·rintro⟨h1,h2⟩
  obtain⟨s,hs⟩: ∃s,c.states[k]? =some s:=⟨c.states[k],List.getElem?_eq_getElem h1⟩
  refine⟨h1, ?_⟩
  unfold zcW
  rw [hs]
  rw [zdN hs] at h2
  simp [h2]
theorem zcD (c:ChD) (i:Int) (real:Bool):(kidsL c i real).Nodup:=List.Nodup.sublist List.filter_sublist List.nodup_range
theorem za5 {c:ChD} {i:Int} {k:Nat} (h:k∈kidsL c i true):k∈kidsL c i false/\ ∃s,c.states[k]? =some s/\zbh s=false:=by
 unfold kidsL zbl at h |-
 rw [List.mem_filter] at h |-
 obtain⟨h1,h2⟩:=h
 unfold zcW at h2 |-
 cases hs:c.states[k]? with
 | none=>rw [hs] at h2; cases h2
 | some s=>
   rw [hs] at h2
   simp at h2 |-
   exact⟨⟨by simpa using h1,h2.1⟩,h2.2⟩
theorem zbm {c:ChD} (h:Right c) {i:Int} {k:Nat} (hk:k∈kidsL c i false):i<k/\k<c.states.length:=by
 obtain⟨h1,h2⟩:=zft.1 hk
 have:=zcn h (zbF.2 h1)
 omega
theorem zn4 {c:ChD} (h:Right c): ∀(f g:Nat) (i:Int),(c.states.length:Int)<=i+f->(c.states.length:Int)<=i+g->ziq c f i=ziq c g i:=by
 have none: ∀(g:Nat) (i:Int),(c.states.length:Int)<=i->ziq c g i=[]:=fun g i hi=>by
  cases g with
  | zero=>rfl
  | succ g=>
    unfold ziq
    have:kidsL c i false=[]:=List.eq_nil_iff_forall_not_mem.2 fun k hk=>by have:=zbm h hk; omega
    rw [this]
    rfl
 intro f
 induction f with
 | zero=>intro g i h1 h2; rw [none g i (by omega)]; rfl
 | succ f ih=>
   intro g i h1 h2
   cases g with
   | zero=>rw [none (f+1) i (by omega)]; rfl
   | succ g=>
     unfold ziq
     apply zbM
     intro k hk
     have:=zbm h hk
     rw [ih g k (by omega) (by omega)]
theorem walk_eq {c:ChD} (h:Right c) {i:Int} (_hi: -1<=i):walkL c i=(kidsL c i false).flatMap fun k=>k::walkL c k:=by
 have hf:=h.few
 show (kidsL c i false).flatMap (fun k=>k::ziq c 39 k)=_
 apply zbM
 intro k hk
 have:=zbm h hk
 rw [show ziq c 39 k=walkL c k from zn4 h 39 40 k (by omega) (by omega)]
theorem zeJ {c:ChD} (h:Right c): ∀(n:Nat) (i:Int) (m:Nat), -1<=i->(c.states.length:Int)<=i+n->(m∈walkL c i↔m<c.states.length/\i∈upL c m)
 | 0,i,m,hi,hn=>by
   rw [walk_eq h hi]
   have:kidsL c i false=[]:=List.eq_nil_iff_forall_not_mem.2 fun k hk=>by have:=zbm h hk; omega
   rw [this]
   simp only [List.flatMap_nil,List.not_mem_nil,false_iff,not_and]
   intro h1 h2
   have:=zgG h 40 m i h2
   omega
 | n+1,i,m,hi,hn=>by
   rw [walk_eq h hi,List.mem_flatMap]
   constructor
   ·rintro⟨k,hk,hm⟩
    have hg:=zbm h hk
    obtain⟨k1,k2⟩:=zft.1 hk
    rcases List.mem_cons.1 hm with rfl | hm
    ·exact⟨k1,(zdp h (zbF.2 k1)).2 (.inl k2.symm)⟩
    ·obtain⟨m1,m2⟩:=(zeJ h n k m (by omega) (by omega)).1 hm
     refine⟨m1,zis h 40 m k i (by have:=h.few; omega) m2 ((zdp h (zbF.2 k1)).2 (.inl k2.symm))⟩
   ·rintro⟨h1,h2⟩
    have key: ∀(d:Nat) (m:Nat),m<d->m<c.states.length->i∈upL c m-> ∃k∈kidsL c i false,m=k\/(k:Int)∈upL c m:=fun d=>by
     induction d with
     | zero=>intro m hd; omega
     | succ d ih=>
       intro m hd hm hu
       have hin:=zbF.2 hm
       rcases (zdp h hin).1 hu with e | e
       ·exact⟨m,zft.2 ⟨hm,e.symm⟩, .inl rfl⟩
       ·have hp:=zcn h hin
        have h0:0<=parZ c m:=by
         rcases Int.lt_or_le (parZ c m) 0 with q | q
         ·have hz:inZ c (parZ c m)=false:=by
           cases hq:inZ c (parZ c m)
           ·rfl
           ·have:=zan.1 hq; omega
          rw [zcw hz] at e; simp at e
         ·exact q
        obtain⟨p,hpe⟩: ∃p:Nat,parZ c m=p:=⟨(parZ c m).toNat,by omega⟩
        rw [hpe] at e hp
        obtain⟨k,hk,hk2⟩:=ih p (by omega) (by omega) e
        refine⟨k,hk, .inr ((zdp h hin).2 ?_)⟩
        rw [hpe]
        rcases hk2 with rfl | hk2
        ·exact .inl rfl
        ·exact .inr hk2
    obtain⟨k,hk,hk2⟩:=key (m+1) m (by omega) h1 h2
    have hg:=zbm h hk
    refine⟨k,hk,List.mem_cons.2 ?_⟩
    rcases hk2 with e | e
    ·exact .inl e
    ·exact .inr ((zeJ h n k m (by omega) (by omega)).2 ⟨h1,e⟩)
theorem zlT {c:ChD} (h:Right c) (m:Nat):m∈walkL c (-1)↔m<c.states.length:=by
 rw [zeJ h 40 (-1) m (by omega) (by have:=h.few; omega)]
 exact⟨fun h=>h.1,fun hm=>⟨hm,zkN h (m+1) m (zbF.2 hm) (by omega)⟩⟩
theorem zpf {c:ChD} (h:Right c) {i:Int} {k1 k2:Nat} (h1:k1∈kidsL c i false) (h2:k2∈kidsL c i false): ∀(d m:Nat),m<d->m<c.states.length->(m=k1\/(k1:Int)∈upL c m)->(m=k2\/(k2:Int)∈upL c m)->k1=k2:=by
 obtain⟨a1,b1⟩:=zft.1 h1
 obtain⟨a2,b2⟩:=zft.1 h2
 have no: ∀ {x y:Nat},x<c.states.length->parZ c x=i->y<c.states.length->parZ c y=i-> ¬(y:Int)∈upL c x:=fun {x y} hx px hy py hm=>by
  have q1:=zcn h (zbF.2 hx)
  have q2:=zcn h (zbF.2 hy)
  rcases (zdp h (zbF.2 hx)).1 hm with e | e
  ·omega
  ·have:=zgG h 40 _ _ e
   omega
 intro d
 induction d with
 | zero=>intro m hd; omega
 | succ d ih=>
   intro m hd hm e1 e2
   rcases e1 with rfl | e1
   ·rcases e2 with rfl | e2
    ·rfl
    ·exact absurd e2 (no a1 b1 a2 b2)
   ·rcases e2 with rfl | e2
    ·exact absurd e1 (no a2 b2 a1 b1)
    ·have hin:=zbF.2 hm
     have hp:=zcn h hin
     have h0:0<=parZ c m:=by
      rcases Int.lt_or_le (parZ c m) 0 with q | q
      ·have hz:inZ c (parZ c m)=false:=by
        cases hq:inZ c (parZ c m)
        ·rfl
        ·have:=zan.1 hq; omega
       rw [zdp h hin,zcw hz] at e1
       rcases e1 with e | e
       ·omega
       ·simp at e
      ·exact q
     obtain⟨p,hpe⟩: ∃p:Nat,parZ c m=p:=⟨(parZ c m).toNat,by omega⟩
     rw [zdp h hin,hpe] at e1 e2
     rw [hpe] at hp
     exact ih p (by omega) (by omega) (by rcases e1 with e | e; exact .inl (by omega); exact .inr e) (by rcases e2 with e | e; exact .inl (by omega); exact .inr e)
theorem zhL {c:ChD} (h:Right c): ∀(n:Nat) (i:Int), -1<=i->(c.states.length:Int)<=i+n->(walkL c i).Nodup
 | 0,i,hi,hn=>by
   rw [walk_eq h hi]
   have:kidsL c i false=[]:=List.eq_nil_iff_forall_not_mem.2 fun k hk=>by have:=zbm h hk; omega
   rw [this]
   simp
 | n+1,i,hi,hn=>by
   rw [walk_eq h hi]
   have mem: ∀k∈kidsL c i false,∀m,m∈k::walkL c k->m<c.states.length/\(m=k\/(k:Int)∈upL c m):=fun k hk m hm=>by
    have hg:=zbm h hk
    rcases List.mem_cons.1 hm with rfl | hm
    ·exact⟨hg.2, .inl rfl⟩
    ·obtain⟨q1,q2⟩:=(zeJ h n k m (by omega) (by omega)).1 hm
     exact⟨q1, .inr q2⟩
   have hnd:=zcD c i false
   rw [List.nodup_iff_pairwise_ne] at hnd
   rw [List.nodup_iff_pairwise_ne,List.pairwise_flatMap]
   refine⟨fun k hk=> ?_, ?_⟩
   ·rw [<-List.nodup_iff_pairwise_ne,List.nodup_cons]
    have hg:=zbm h hk
    refine⟨fun hm=> ?_,zhL h n k (by omega) (by omega)⟩
    have:=(zeJ h n k k (by omega) (by omega)).1 hm
    have:=zgG h 40 _ _ this.2
    omega
   ·refine List.Pairwise.imp_of_mem (R:=fun a b=>a≠b) ?_ hnd
    intro k1 k2 hk1 hk2 hne m1 hm1 m2 hm2 e
    subst e
    obtain⟨q1,q2⟩:=mem k1 hk1 m1 hm1
    obtain⟨_,q3⟩:=mem k2 hk2 m1 hm2
    exact hne (zpf h hk1 hk2 (m1+1) m1 (by omega) q1 q2 q3)
/-! Sorting by the walk -/
def zm7 (c:ChD) (l:List Int):List Nat:=if l.all (inZ c)=true then(walkL c (-1)).filter fun k=>l.contains (k:Int) else []
end
section
open Go.RowKit
structure Full (c:ChD):Prop extends Right c where
 st: ∀(k:Nat) (s:StD),c.states[k]? =some s->zay c k s=true
 tr: ∀(k:Nat) (t:TrD),c.trans[k]? =some t->zcM c t=true
 ini:topB c=true
 ftr:c.trans.length<=64
theorem full_of {c:ChD} (h:(chk c).1=0):Full c:=by
 refine⟨zl2 h, ?_, ?_, ?_, ?_⟩<;>
 ·unfold chk at h
  split at h
  ·simp at h
  rename_i h1
  split at h
  ·simp at h
  split at h
  ·simp at h
  split at h
  ·simp at h
  rename_i h3
  split at h
  ·simp at h
  rename_i h4
  split at h
  ·simp at h
  rename_i h5
  first
   |(intro k s hs
     have:=zbO h3 k (List.getElem?_eq_some_iff.1 hs).1
     unfold zgl at this
     rw [hs] at this
     exact this)
   |(intro k t ht
     have:=zbO h5 k (List.getElem?_eq_some_iff.1 ht).1
     unfold zi7 at this
     rw [ht] at this
     exact this)
   |(simpa using h4)
   | omega
theorem Full.shape {c:ChD} (h:Full c) {k:Nat} {s:StD} (hs:c.states[k]? =some s):zas c k s=true:=by
 have:=h.st k s hs
 simp only [zay,Bool.and_eq_true] at this
 exact this.1.1.2
theorem zsq {l:List Nat} {n:Int} :inL l n=true↔ ∃k∈l,(k:Int)=n:=by
 unfold inL
 rw [List.any_eq_true]
 simp
theorem Full.cases {c:ChD} (h:Full c) {k:Nat} {s:StD} (hs:c.states[k]? =some s):
 (s.kind=1/\((kidsL c k true=[]/\s.initial= -1)\/ ∃j∈kidsL c k true,s.initial=(j:Nat)))\/(s.kind=2/\s.initial= -1/\kidsL c k true≠[]/\ ∀j∈kidsL c k true,zaM c j=true)\/
  (s.kind=3/\kidsL c k false=[]/\s.initial= -1)\/((s.kind=4\/s.kind=5)/\kidsL c k false=[]/\zaW c s=true/\inL (kidsL c s.parent true) s.initial=true):=by
 have hb:=h.shape hs
 unfold zas at hb
 split at hb
 ·rename_i e
  refine .inl ⟨e, ?_⟩
  split at hb
  ·rename_i e2
   exact .inl ⟨e2,by simpa using hb⟩
  ·obtain⟨j,hj,e3⟩:=zsq.1 hb
   exact .inr ⟨j,hj,e3.symm⟩
 split at hb
 ·rename_i e
  simp only [Bool.and_eq_true,decide_eq_true_eq,beq_iff_eq,List.all_eq_true] at hb
  exact .inr (.inl ⟨e,hb.2,fun e2=>by rw [e2] at hb; simp at hb,hb.1.1⟩)
 split at hb
 ·rename_i e
  simp only [Bool.and_eq_true,beq_iff_eq] at hb
  exact .inr (.inr (.inl ⟨e,by simpa using hb.1.1.1,hb.1.2⟩))
 split at hb
 ·rename_i e
  simp only [Bool.and_eq_true,beq_iff_eq] at hb
  exact .inr (.inr (.inr ⟨e,by simpa using hb.1.1.1.1,hb.1.1.1.2,hb.1.1.2⟩))
 ·cases hb
theorem ziK {c:ChD} {i:Int} (h:kidsL c i false=[]):kidsL c i true=[]:=by
 apply List.eq_nil_iff_forall_not_mem.2
 intro k hk
 have:=(za5 hk).1
 rw [h] at this
 simp at this
abbrev zL (l:List Nat):List Int:=l.map fun k:Nat=>(k:Int)
/-! What begins with a state -/
def bgF (c:ChD):Nat->Nat->List Nat
 | 0,_=>[]
 | f+1,i=>i::match c.states[i]? with
   | some s=>if s.kind=1/\0<=s.initial then bgF c f s.initial.toNat else if s.kind=2 then(kidsL c i true).flatMap (bgF c f) else []
   | none=>[]
def bgL (c:ChD) (i:Nat):List Nat:=bgF c 40 i
theorem zlv {c:ChD} (h:Full c) {i:Nat} {s:StD} (hs:c.states[i]? =some s) (h1:s.kind=1) (h0:0<=s.initial): ∃j∈kidsL c i true,s.initial=(j:Nat):=by
 rcases h.cases hs with⟨_,⟨_,e⟩ | e⟩ | ⟨e,_⟩ | ⟨e,_⟩ | ⟨e,_⟩
 ·omega
 ·exact e
 ·omega
 ·omega
 ·omega
theorem zlI {c:ChD} (h:Full c): ∀(f g:Nat) (i:Nat),i<c.states.length->c.states.length<=i+f->c.states.length<=i+g->bgF c f i=bgF c g i
 | 0,g,i,h0,h1,h2=>by omega
 | f+1,0,i,h0,h1,h2=>by omega
 | f+1,g+1,i,h0,h1,h2=>by
   unfold bgF
   congr 1
   cases hs:c.states[i]? with
   | none=>rfl
   | some s=>
     simp only
     split
     ·rename_i e
      obtain⟨j,hj,e2⟩:=zlv h hs e.1 e.2
      have:=zbm h.toRight (za5 hj).1
      rw [e2,Int.toNat_natCast]
      exact zlI h f g j (by omega) (by omega) (by omega)
     ·split
      ·apply zbM
       intro k hk
       have:=zbm h.toRight (za5 hk).1
       exact zlI h f g k (by omega) (by omega) (by omega)
      ·rfl
theorem zrA (c:ChD) (f i:Nat):bgF c (f+1) i=i::match c.states[i]? with
 | some s=>if s.kind=1/\0<=s.initial then bgF c f s.initial.toNat else if s.kind=2 then(kidsL c i true).flatMap (bgF c f) else []
 | none=>[]:=rfl
theorem ztf {c:ChD} (h:Full c) {i:Nat} {s:StD} (hs:c.states[i]? =some s):bgL c i=i::if s.kind=1/\0<=s.initial then bgL c s.initial.toNat else if s.kind=2 then(kidsL c i true).flatMap (bgL c) else []:=by
 have hi:=(List.getElem?_eq_some_iff.1 hs).1
 have hf:=h.few
 have e0:=zrA c 39 i
 rw [hs] at e0
 simp only at e0
 have e1: ∀j,j∈kidsL c i true->bgF c 39 j=bgL c j:=fun j hj=>by
  have:=zbm h.toRight (za5 hj).1
  exact zlI h 39 40 j (by omega) (by omega) (by omega)
 refine Eq.trans e0 (congrArg (List.cons i) ?_)
 by_cases q:s.kind=1/\0<=s.initial
 ·rw [if_pos q,if_pos q]
  obtain⟨j,hj,e2⟩:=zlv h hs q.1 q.2
  rw [e2,Int.toNat_natCast]
  exact e1 j hj
 ·rw [if_neg q,if_neg q]
  by_cases q2:s.kind=2
  ·rw [if_pos q2,if_pos q2]
   exact zbM e1
  ·rw [if_neg q2,if_neg q2]
theorem zga {α β:Type} {f:α->List β} : ∀ {l:List α},(∀x∈l,f x=[])->l.flatMap f=[]
 | [],_=>rfl
 | x::l,h=>by
   simp only [List.flatMap_cons]
   rw [h x (by simp),zga fun y hy=>h y (by simp [hy])]
   rfl
theorem flatMap_one {α β:Type} {f:α->List β} {a:α} : ∀ {l:List α},l.Nodup->a∈l->(∀x∈l,x≠a->f x=[])->l.flatMap f=f a
 | [],_,ha,_=>by simp at ha
 | x::l,hn,ha,h=>by
   obtain⟨h1,h2⟩:=List.nodup_cons.1 hn
   simp only [List.flatMap_cons]
   by_cases e:x=a
   ·subst e
    rw [zga fun y hy=>h y (by simp [hy]) fun e=>h1 (e ▸ hy),List.append_nil]
   ·rw [h x (by simp) e,List.nil_append]
    exact flatMap_one h2 ((List.mem_cons.1 ha).resolve_left (Ne.symm e)) fun y hy=>h y (by simp [hy])
theorem zr5 {c:ChD} (h:Full c) {i:Nat} {s:StD} (hs:c.states[i]? =some s):bgL c i=i::(kidsL c i true).flatMap fun k=>if s.kind=2\/s.initial=(k:Nat) then bgL c k else []:=by
 rw [ztf h hs]
 congr 1
 rcases h.cases hs with⟨e,⟨e1,e2⟩ | ⟨j,hj,e2⟩⟩ | ⟨e,e1,_⟩ | ⟨e,e1,_⟩ | ⟨e,e1,_⟩
 ·rw [e1,if_neg (by omega),if_neg (by omega)]
  rfl
 ·rw [if_pos ⟨e,by omega⟩,e2,Int.toNat_natCast]
  rw [flatMap_one (zcD c i true) hj fun x _ hne=>by rw [if_neg]; omega]
  rw [if_pos (.inr rfl)]
 ·rw [if_neg (by omega),if_pos e]
  apply zbM
  intro k _
  rw [if_pos (.inl e)]
 ·rw [if_neg (by omega),if_neg (by omega),ziK e1]
  rfl
 ·rw [if_neg (by omega),if_neg (by omega),ziK e1]
  rfl
def sbL (c:ChD) (i:Nat):List Nat:=zm7 c (zL (bgL c i))
end
section
open Go.RowKit
def manyI (act:List Int) (kids:List Nat):Nat:=(kids.filter fun k:Nat=>act.contains (k:Int)).length
theorem zlo (act:List Int) (kids:List Nat):manyI act kids<=kids.length:=List.length_filter_le ..
def fitB (c:ChD) (act:List Int) (i:Nat) (s:StD):Bool:=
 !zbh s&&(decide (s.parent<0)||act.contains s.parent)&&
  (if s.kind=1/\kidsL c i true≠[] then manyI act (kidsL c i true)==1 else if s.kind=2 then manyI act (kidsL c i true)==(kidsL c i true).length else true)
def fitI (c:ChD) (act:List Int) (i:Int):Bool:=match at_ c i with
 | some s=>fitB c act i.toNat s
 | none=>false
def lgAt (c:ChD) (act:List Int) (n:Nat):Bool:=match act[n]? with
 | some i=>(n==0||decide (act.getD (n-1) 0<i))&&fitI c act i
 | none=>true
def ze1 (c:ChD) (act:List Int):Int×Int:=match zaJ (lgAt c act) act.length with
 | some n=>(1,max (act.getD n 0) (-1))
 | none=>if manyI act (kidsL c (-1) true)=1 then(0, -1) else(1, -1)
def lgB (c:ChD) (act:List Int):Bool:=(ze1 c act).1==0
theorem zsU {c:ChD} {act:List Int} :lgB c act=true↔(∀n,n<act.length->lgAt c act n=true)/\manyI act (kidsL c (-1) true)=1:=by
 unfold lgB ze1
 cases h:zaJ (lgAt c act) act.length with
 | some n=>
   refine⟨fun e=>by simp at e,fun e=> ?_⟩
   rw [zaI e.1] at h
   cases h
 | none=>
   simp only
   split
   ·rename_i e
    exact⟨fun _=>⟨fun n hn=>zbO h n hn,e⟩,fun _=>rfl⟩
   ·rename_i e
    exact⟨fun e2=>by simp at e2,fun e2=>absurd e2.2 e⟩
/-! What is active at first -/
/-! What begins is few -/
theorem zsx {c:ChD} (h:Full c): ∀(n i m:Nat),i<c.states.length->c.states.length<=i+n->m∈bgL c i->m<c.states.length/\(m=i\/(i:Int)∈upL c m)
 | 0,i,m,hi,hn,_=>by omega
 | n+1,i,m,hi,hn,hm=>by
   obtain⟨s,hs⟩: ∃s,c.states[i]? =some s:=⟨c.states[i],List.getElem?_eq_getElem hi⟩
   rw [zr5 h hs,List.mem_cons,List.mem_flatMap] at hm
   rcases hm with rfl | ⟨k,hk,hm⟩
   ·exact⟨hi, .inl rfl⟩
   ·have hg:=zbm h.toRight (za5 hk).1
    have hkp:=(zft.1 (za5 hk).1).2
    have hup:(i:Int)∈upL c k:=(zdp h.toRight (zbF.2 hg.2)).2 (.inl hkp.symm)
    split at hm
    ·obtain⟨h1,h2⟩:=zsx h n k m (by omega) (by omega) hm
     refine⟨h1, .inr ?_⟩
     rcases h2 with rfl | h2
     ·exact hup
     ·exact zis h.toRight (m+1) m k i (by omega) h2 hup
    ·simp at hm
theorem zmM {c:ChD} (h:Full c): ∀(n i:Nat),i<c.states.length->c.states.length<=i+n->(bgL c i).Nodup
 | 0,i,hi,hn=>by omega
 | n+1,i,hi,hn=>by
   obtain⟨s,hs⟩: ∃s,c.states[i]? =some s:=⟨c.states[i],List.getElem?_eq_getElem hi⟩
   rw [zr5 h hs,List.nodup_cons]
   have mem: ∀k∈kidsL c i true,∀m,m∈(if s.kind=2\/s.initial=(k:Nat) then bgL c k else [])->m<c.states.length/\(m=k\/(k:Int)∈upL c m):=fun k hk m hm=>by
    have hg:=zbm h.toRight (za5 hk).1
    split at hm
    ·exact zsx h n k m (by omega) (by omega) hm
    ·simp at hm
   refine⟨fun hm=> ?_, ?_⟩
   ·obtain⟨k,hk,hm⟩:=List.mem_flatMap.1 hm
    have hg:=zbm h.toRight (za5 hk).1
    obtain⟨q1,q2⟩:=mem k hk i hm
    rcases q2 with e | e
    ·omega
    ·have:=zgG h.toRight 40 _ _ e
     omega
   ·have hnd:=zcD c i true
    rw [List.nodup_iff_pairwise_ne] at hnd
    rw [List.nodup_iff_pairwise_ne,List.pairwise_flatMap]
    refine⟨fun k hk=> ?_, ?_⟩
    ·have hg:=zbm h.toRight (za5 hk).1
     rw [<-List.nodup_iff_pairwise_ne]
     split
     ·exact zmM h n k (by omega) (by omega)
     ·exact .nil
    ·refine List.Pairwise.imp_of_mem (R:=fun a b=>a≠b) ?_ hnd
     intro k1 k2 hk1 hk2 hne m1 hm1 m2 hm2 e
     subst e
     obtain⟨q1,q2⟩:=mem k1 hk1 m1 hm1
     obtain⟨_,q3⟩:=mem k2 hk2 m1 hm2
     exact hne (zpf h.toRight (za5 hk1).1 (za5 hk2).1 (m1+1) m1 (by omega) q1 q2 q3)
theorem zr6 {c:ChD} (h:Full c) {i:Nat} (hi:i<c.states.length):(bgL c i).length<=32:=by
 have hf:=h.few
 have:=(zmM h 40 i hi (by omega)).length_le_of_subset (l₂:=List.range c.states.length) fun m hm=>List.mem_range.2 (zsx h 40 i m hi (by omega) hm).1
 simp at this
 omega
end
section
open Go.RowKit
/-! The n-th ones -/
end
section
open Go.RowKit
/-! One more is none -/
end
section
open Go.RowKit
attribute [go_sem] zsQ zlA zgI resI zow zmI zrN toRL toKL gin gout nout vin zc6 lay AV.ren AV.ren.renL Row.ren zaN Option.bind_some Option.bind_none Option.isSome_some Option.isSome_none Option.getD_some Bool.true_eq_false zrL zmS zrO wrs wes List.cons.injEq Prod.mk.injEq forall_const
end
section
open Go.RowKit Go.Extern.Stop Go.Stop Go.Extern
end
section
open Go.RowKit
attribute [local go_sem_proc ↓] reduceIte
attribute [local go_sem_proc] reduceCtorEq Nat.reduceBEq Nat.reduceAdd Nat.reduceSub Nat.reduceEqDiff Nat.reduceLT Nat.reduceLeDiff Nat.reduceMul Int.reduceToNat Int.reduceBEq Int.reduceBNe Int.reduceEq Int.reduceLT Int.reduceLE
attribute [local go_sem] zpM zkr zmB zhm zmo zfy zh4 zfz List.isEmpty_cons Array.isEmpty_iff zic zkm zgd zhl ze8 zc8 zcc zkn zdY zfa zcG zeh zl8 zbv mfind zeb Rd.map AV.bare AV.bare.bareL AV.ofVal zaG zc1 zdJ zd2 zdo Takes zao zag zpJ zko zpI zmE zr2 zmC ze9 zpL zmw zmD zpH zie zmz zpK zmx zgf zmA zge zmy zid zr1 zkp zrZ zr0 zpN zpO zrT zrV zpr zrU zpo zpp zpq zoN zlM zlF zk5 zo8 unRd zlx exRd val zdQ zcJ seen AV.plain AV.soft adopt fzArgs Rd.run AV.asCells zfT runL Comes' Rd.row Rd.bind Out.app apps Eff.app St.renew St.setRow St.show St.put St.init upd zhn zkt zrj eqFs zbB zks zeI znE zcH zcI zhq zhp bound zho zdl zei zkq zcC zgc zdW zck fz zbA zcl shows zbn splice wrs wes Value.oneCell' List.getD_cons_zero List.getD_cons_succ List.getD_nil List.length_cons List.length_nil List.map_cons List.map_nil List.nil_append List.cons_append List.all_cons List.all_nil List.getElem?_cons_zero List.getElem?_cons_succ List.set_cons_zero List.set_cons_succ List.take_succ_cons List.take_zero List.drop_succ_cons List.drop_zero List.take_nil List.drop_nil List.replicate_succ List.replicate_zero Bool.and_true Bool.true_and Bool.and_self and_self true_and and_true Nat.zero_add Nat.add_zero Option.some.injEq Nat.zero_lt_succ Bool.not_true Bool.not_false ne_eq not_true_eq_false not_false_eq_true Option.map_some Option.map_none List.toList_toArray head zhb zaN List.length_map Int.toNat_natCast Int.natCast_nonneg List.getElem?_map decide_true decide_false Bool.false_eq_true if_true if_false Bool.or_self Bool.or_true Bool.true_or Bool.false_or Bool.or_false Bool.and_false Bool.false_and List.flatten_cons List.flatten_nil List.append_nil nat0 or_self or_false false_or or_true true_or and_false false_and List.length_append List.isEmpty_nil bne_self_eq_false beq_self_eq_true zar zrR bytesOf_map wants Int.cast_ofNat_Int gt_iff_lt ge_iff_le
attribute [local go_sem <-] List.map_drop List.map_take
/-! Weaker values -/
theorem Str.iface {t:TypeId} {c' c:AV} (h:Str c' c):Str (.iface t c') (.iface t c):=fun S w v hv=>by
 cases hv with
 | iface _ v _ hv=>exact .iface t v c (h S w v hv)
theorem Str.ref1 {cs' cs:List AV} {off:Nat} (h:Strs cs' cs):Str (.ref cs.length [cs'] 0 off) (.ref cs.length [cs] 0 off):=fun S w v hv=>by
 cases hv with
 | ref sz es i off b o u hz hc hr=>
   have at': ∀(i j:Nat) (c:AV),cellAt [cs] i j=some c-> ∃c',cellAt [cs'] i j=some c'/\Str c' c:=fun i j c hcc=>by
    cases i with
    | zero=>
      have hj:cs[j]? =some c:=hcc
      have hlt:j<cs'.length:=by rw [h.1]; exact(List.getElem?_eq_some_iff.1 hj).1
      exact⟨cs'[j],List.getElem?_eq_getElem hlt,h.2 j _ c (List.getElem?_eq_getElem hlt) hj⟩
    | succ i=>simp [cellAt] at hcc
   refine .ref _ [cs] 0 off b o u (fun i e he=>by
    cases i with
    | zero=>simp at he; rw [<-he]
    | succ i=>simp at he) (fun i j c hcc=> ?_) fun i j c hcc=> ?_
   ·obtain⟨c',h1,_⟩:=at' i j c hcc
    exact hc i j c' h1
   ·obtain⟨c',h1,h2⟩:=at' i j c hcc
    exact h2 S w _ (hr i j c' h1)
abbrev sentV (a:Addr):AV:= .lit (.iface 379 (.pointer (some a)))
abbrev errV (p:Int) (e:AV):AV:= .iface 159 (.ref 3 [[.any,I p,e]] 0 0)
abbrev nilE:AV:= .lit .nilIface
theorem zrk (s p:AV) (q:Int) (hp:p=I q) (e:AV):RStr (.iface 159 (.ref 3 [[s,p,e]] 0 0)) (errV q e):=by
 subst hp
 exact .of (.iface (.ref1 (cs:=[.any,I q,e]) (.cons (.any _) (.refl _)))) (fun _ _ _ h=>by cases h) (fun _ _ _ h=>by cases h)
def zon (ad:Nat->Addr) (g:Nat):Option AV:=
 if g=1 then some (sentV (ad 1)) else
 if g=2 then some (sentV (ad 2)) else
 if g=3 then some (sentV (ad 3)) else
 if g=4 then some (sentV (ad 4)) else
 if g=5 then some (sentV (ad 5)) else
 if g=6 then some (sentV (ad 6)) else
 if g=0 then some (sentV (ad 7)) else
 if g=7 then some (sentV (ad 8)) else
 if g=8 then some (sentV (ad 9)) else none
structure More where
 inv:World->Prop
 up: ∀w w',inv w->Below w.heap.size w w'->inv w'
def zbP (ad:Nat->Addr) (mo:More):Env:=⟨zon ad,fun w=>Sents w ad/\mo.inv w,fun w w' h hb=>⟨h.1.below hb,mo.up w w' h.2 hb⟩⟩
theorem zpP {ad:Nat->Addr} {mo:More} {w:World} (h:Sents w ad) (hm:mo.inv w):EnvOk (zbP ad mo) (fun b _=>b<w.heap.size) w:=by
 refine⟨⟨h,hm⟩,fun b o hb=>hb,fun g c hg=> ?_⟩
 have one: ∀ {g:Nat} {a:Addr},Sent w g a-> ∃u,w.cell? ⟨g,0,none⟩=some u/\u.oneCell'=true/\g<w.heap.size/\RV (fun b _=>b<w.heap.size) w u (sentV a):=fun hs=>⟨_,hs.1,rfl,zp4 hs.1, .lit _⟩
 have hg:zon ad g=some c:=hg
 unfold zon at hg
 split at hg
 ·rename_i e; subst e; cases hg; exact one h.s1
 split at hg
 ·rename_i e; subst e; cases hg; exact one h.s2
 split at hg
 ·rename_i e; subst e; cases hg; exact one h.s3
 split at hg
 ·rename_i e; subst e; cases hg; exact one h.s4
 split at hg
 ·rename_i e; subst e; cases hg; exact one h.s5
 split at hg
 ·rename_i e; subst e; cases hg; exact one h.s6
 split at hg
 ·rename_i e; subst e; cases hg; exact one h.s7
 split at hg
 ·rename_i e; subst e; cases hg; exact one h.s8
 split at hg
 ·rename_i e; subst e; cases hg; exact one h.s9
 cases hg
section
variable {ad:Nat->Addr} {mo:More} {f:Nat->AV}
end
theorem zhG {env:Env} {g:Nat} {c:AV} (h:env g=some c) (f:Nat->AV):gt env f (.global g)= .ref 1 [[c]] 0 0:=by simp only [gt,h]
theorem zb5 (env:Env) (s:List UInt8) (a:Addr):Con Tryz.prog env 84 [Sg s,sentV a] (errV (-1) (sentV a)):=by
 refine zaK Tryz.func84 rfl Tryz.call84 (by rw [Tryz.ntmps84]; simp) ?_
 rw [Tryz.ntmps84,Tryz.results84]
 repeat (first | refine oO rfl (by simp only [go_sem]; exact⟨rfl,rfl⟩) ?_ | refine gR ?_ | refine gO ?_ | refine oZ (zaA ?_) | refine oZ ?_ | refine oS ?_ | refine gT ?_ | refine gD Tryz.mixed ?_ | refine oB ?_ | refine oK ?_ | (refine oX ?_; simp only [zao,zag, ↓reduceIte,Nat.reduceEqDiff,reduceCtorEq]))
 (refine zah ?_; refine⟨_,(by show (zaG _ _ _).run _=some _; simp only [go_sem]; rfl), ?_⟩)
 exact zrk _ _ _ rfl _
/-! fault.Code -/
theorem zi5 {P:Program} {env:Env} {f:FuncId} {cs:List AV} {u:Value} (henter: ∀(args:Array Value) (w:World),(callFunc f args).run P w= .ok (.enter f args) w)
 (h: ∀(w:World) (S:Nat->Nat->Prop) (vs:List Value),EnvOk env S w->vs.length=cs.length->(∀(i:Nat) (v:Value) (c:AV),vs[i]? =some v->cs[i]? =some c->RV S w v c)->Calls P f vs.toArray w fun e w'=>e= .returned u/\Below w.heap.size w w'):Con P env f cs (.lit u):=by
 refine⟨henter,fun w S vs hE hl hv=>(h w S vs hE hl hv).mono ?_⟩
 rintro e w' ⟨rfl,hb⟩
 exact⟨u,rfl,hb,S,fun _ _ h=>h,fun _ _ h=> .inl h,fun b o hb'=>Nat.lt_of_lt_of_le (hE.low b o hb') hb.size, .lit _⟩
theorem zm8 {w:World} {ad:Nat->Addr} (h:Sents w ad) (k:Nat) (hk:1<=k/\k<=9):Lies w (ad k):=by
 obtain rfl | rfl | rfl | rfl | rfl | rfl | rfl | rfl | rfl:k=1\/k=2\/k=3\/k=4\/k=5\/k=6\/k=7\/k=8\/k=9:=by omega
 ·exact h.s1.2
 ·exact h.s2.2
 ·exact h.s3.2
 ·exact h.s4.2
 ·exact h.s5.2
 ·exact h.s6.2
 ·exact h.s7.2
 ·exact h.s8.2
 ·exact h.s9.2
end
section
open Go.RowKit
end
section
open Go.RowKit
abbrev smallCs (k:Int):Array Value:= #[.string ⟨#[97]⟩, .int .i64 1, .int .i64 (-1), .int .i64 k, .slice none 0 0, .slice none 0 0, .string ⟨#[98]⟩, .int .i64 1, .int .i64 0, .int .i64 (-1), .slice none 0 0, .slice none 0 0]
def zlN (w:World) (g:Nat) (k:Int):Prop:= ∀i v,(smallCs k)[i]? =some v->w.cell? ⟨g,i,none⟩=some v
theorem zlN.below {w w':World} {g:Nat} {k:Int} (h:zlN w g k) (hb:Below w.heap.size w w'):zlN w' g k:=fun i v hi=>cell_below (h i v hi) hb
theorem EnvOk.all {env:Env} {S:Nat->Nat->Prop} {w:World} (h:EnvOk env S w):EnvOk env (fun b _=>b<w.heap.size) w:=⟨h.inv,fun _ _ h=>h,fun g c hg=>by
 obtain⟨u,h1,h2,h3,h4⟩:=h.env g c hg
 exact⟨u,h1,h2,h.low _ _ h3,h4.mono fun b o hb=>⟨h.low _ _ hb, .rfl⟩⟩⟩
theorem EnvOk.belowA {env:Env} {w w':World} (h:EnvOk env (fun b _=>b<w.heap.size) w) (hb:Below w.heap.size w w'):EnvOk env (fun b _=>b<w'.heap.size) w':=⟨env.up _ _ h.inv hb,fun _ _ h=>h,fun g c hg=>by
 obtain⟨u,h1,h2,h3,h4⟩:=h.env g c hg
 exact⟨u,cell_below h1 hb,h2,Nat.lt_of_lt_of_le h3 hb.size,h4.mono fun b o (hbo:b<_)=>⟨Nat.lt_of_lt_of_le hbo hb.size,hb.stay hbo⟩⟩⟩
theorem zrt {P:Program} {env:Env} {f:FuncId} {cs:List AV} {res:AV} {w:World} {vs:List Value} (h:Con P env f cs res) (hE:EnvOk env (fun b _=>b<w.heap.size) w) (hres: ∀e sz es,res≠ .own e sz es) (hv:RAs (fun b _=>b<w.heap.size) w vs cs):
 Calls P f vs.toArray w fun e w'=> ∃v,e= .returned v/\Below w.heap.size w w'/\EnvOk env (fun b _=>b<w'.heap.size) w'/\RV (fun b _=>b<w'.heap.size) w' v res:=by
 obtain⟨h1,h2⟩:=hv.at_
 refine(h.calls w _ vs hE h1 h2).mono ?_
 rintro e w' ⟨v,rfl,hb,S',_,_,hlt,hr⟩
 refine⟨v,rfl,hb,hE.belowA hb, ?_⟩
 have hr':RV S' w' v res:=by
  cases res with
  | own e sz es=>exact(hres e sz es rfl).elim
  | _=>exact hr
 exact hr'.mono fun b o hbo=>⟨hlt b o hbo, .rfl⟩
end
section
open Go.RowKit
theorem zbD (env:Env) (l:List UInt8) (hl:l.length<=9223372036854775807):Con Tryz.prog env 178 [Sg l] (B (zaC l)):=
 zi5 Tryz.call178 fun w S vs hE hlen hv=>by
  match vs,hlen with
  | [v],_=>
    obtain rfl:=(hv 0 v _ rfl rfl).lit_inv
    refine(ziL l hl w).mono ?_
    rintro e w' ⟨rfl,rfl⟩
    exact⟨rfl,Below.refl _ _⟩
def zdw (n:Int):Bool:=decide (-2147483647<=n)&&decide (n<=2147483647)
theorem zjj (env:Env) (n:Int):Con Tryz.prog env 92 [I n] (B (zdw n)):=by
 unfold zdw
 refine zaa Tryz.func92 rfl Tryz.call92 (by rw [Tryz.ntmps92]; simp) ?_
 rw [Tryz.ntmps92,Tryz.results92]
 by_cases h1: -2147483647<=n<;>by_cases h2:n<=2147483647<;>
 ·have F:=ai h1<|h2
  repeat refine st ?_
  exact aR
theorem zg1 (env:Env) (n:Int):Con Tryz.prog env 61 [I n] (B (zdw n)):=by
 unfold zdw
 refine zaa Tryz.func61 rfl Tryz.call61 (by rw [Tryz.ntmps61]; simp) ?_
 rw [Tryz.ntmps61,Tryz.results61]
 by_cases h1: -2147483647<=n<;>by_cases h2:n<=2147483647<;>
 ·have F:=ai h1<|h2
  repeat refine st ?_
  exact aR
/-! Expressions' kinds -/
theorem zep {p:Int->Int->Prop} (h1: ∀k:Int,1<=k->k<=4-> ¬k<1-> ¬19<k-> ¬4<k->p k 0) (h5:p 5 1) (h6:p 6 1)
 (h7: ∀k:Int,1<=k-> ¬k<=4->(k==5)=false->(k==6)=false->7<=k->k<=19-> ¬k<1-> ¬19<k-> ¬k<=6->p k 2)
 (h8: ∀k:Int,¬1<=k->(k==5)=false->(k==6)=false-> ¬7<=k->k<1->p k (-1))
 (h9: ∀k:Int,1<=k-> ¬k<=4->(k==5)=false->(k==6)=false->7<=k-> ¬k<=19-> ¬k<1->19<k->p k (-1)) (k:Int):p k (zaf k):=by
 have ne: ∀a b:Int,a≠b->(a==b)=false:=fun a b h=>by simpa using h
 by_cases a:1<=k
 ·by_cases b:k<=4
  ·rw [show zaf k=0 by unfold zaf; rw [if_pos ⟨a,b⟩]]
   exact h1 k a b (by omega) (by omega) (by omega)
  ·by_cases c:k=5
   ·subst c; exact h5
   ·by_cases d:k=6
    ·subst d; exact h6
    ·by_cases e:k<=19
     ·rw [show zaf k=2 by unfold zaf; rw [if_neg (by omega),if_neg (by omega),if_pos (by omega)]]
      exact h7 k a b (ne _ _ c) (ne _ _ d) (by omega) e (by omega) (by omega) (by omega)
     ·rw [show zaf k= -1 by unfold zaf; rw [if_neg (by omega),if_neg (by omega),if_neg (by omega)]]
      exact h9 k a b (ne _ _ c) (ne _ _ d) (by omega) e (by omega) (by omega)
 ·rw [show zaf k= -1 by unfold zaf; rw [if_neg (by omega),if_neg (by omega),if_neg (by omega)]]
  exact h8 k a (ne _ _ (by omega)) (ne _ _ (by omega)) (by omega) (by omega)
theorem zcp (env:Env) (k:Int):Con Tryz.prog env 321 [I k] (I (zaf k)):=by
 refine zep (p:=fun k r=>Con Tryz.prog env 321 [I k] (I r)) ?_ ?_ ?_ ?_ ?_ ?_ k
 ·intro k a1 a2 a3 a4 a5
  refine zaa Tryz.func321 rfl Tryz.call321 (by rw [Tryz.ntmps321]; simp) ?_
  rw [Tryz.ntmps321,Tryz.results321]
  have F:=ai a1<|ai a2<|ai a3<|ai a4<|a5
  repeat refine st ?_
  exact aR
 ·refine zaa Tryz.func321 rfl Tryz.call321 (by rw [Tryz.ntmps321]; simp) ?_
  rw [Tryz.ntmps321,Tryz.results321]
  repeat refine st0 ?_
  exact aR0
 ·refine zaa Tryz.func321 rfl Tryz.call321 (by rw [Tryz.ntmps321]; simp) ?_
  rw [Tryz.ntmps321,Tryz.results321]
  repeat refine st0 ?_
  exact aR0
 ·intro k a1 a2 a3 a4 a5 a6 a7 a8 a9
  refine zaa Tryz.func321 rfl Tryz.call321 (by rw [Tryz.ntmps321]; simp) ?_
  rw [Tryz.ntmps321,Tryz.results321]
  have F:=ai a1<|ai a2<|ai a3<|ai a4<|ai a5<|ai a6<|ai a7<|ai a8<|a9
  repeat refine st ?_
  exact aR
 ·intro k a1 a2 a3 a4 a5
  refine zaa Tryz.func321 rfl Tryz.call321 (by rw [Tryz.ntmps321]; simp) ?_
  rw [Tryz.ntmps321,Tryz.results321]
  have F:=ai a1<|ai a2<|ai a3<|ai a4<|a5
  repeat refine st ?_
  exact aR
 ·intro k a1 a2 a3 a4 a5 a6 a7 a8
  refine zaa Tryz.func321 rfl Tryz.call321 (by rw [Tryz.ntmps321]; simp) ?_
  rw [Tryz.ntmps321,Tryz.results321]
  have F:=ai a1<|ai a2<|ai a3<|ai a4<|ai a5<|ai a6<|ai a7<|a8
  repeat refine st ?_
  exact aR
theorem zco (env:Env) (k:Int):Con Tryz.prog env 288 [I k] (I (zaf k)):=by
 refine zep (p:=fun k r=>Con Tryz.prog env 288 [I k] (I r)) ?_ ?_ ?_ ?_ ?_ ?_ k
 ·intro k a1 a2 a3 a4 a5
  refine zaa Tryz.func288 rfl Tryz.call288 (by rw [Tryz.ntmps288]; simp) ?_
  rw [Tryz.ntmps288,Tryz.results288]
  have F:=ai a1<|ai a2<|ai a3<|ai a4<|a5
  repeat refine st ?_
  exact aR
 ·refine zaa Tryz.func288 rfl Tryz.call288 (by rw [Tryz.ntmps288]; simp) ?_
  rw [Tryz.ntmps288,Tryz.results288]
  repeat refine st0 ?_
  exact aR0
 ·refine zaa Tryz.func288 rfl Tryz.call288 (by rw [Tryz.ntmps288]; simp) ?_
  rw [Tryz.ntmps288,Tryz.results288]
  repeat refine st0 ?_
  exact aR0
 ·intro k a1 a2 a3 a4 a5 a6 a7 a8 a9
  refine zaa Tryz.func288 rfl Tryz.call288 (by rw [Tryz.ntmps288]; simp) ?_
  rw [Tryz.ntmps288,Tryz.results288]
  have F:=ai a1<|ai a2<|ai a3<|ai a4<|ai a5<|ai a6<|ai a7<|ai a8<|a9
  repeat refine st ?_
  exact aR
 ·intro k a1 a2 a3 a4 a5
  refine zaa Tryz.func288 rfl Tryz.call288 (by rw [Tryz.ntmps288]; simp) ?_
  rw [Tryz.ntmps288,Tryz.results288]
  have F:=ai a1<|ai a2<|ai a3<|ai a4<|a5
  repeat refine st ?_
  exact aR
 ·intro k a1 a2 a3 a4 a5 a6 a7 a8
  refine zaa Tryz.func288 rfl Tryz.call288 (by rw [Tryz.ntmps288]; simp) ?_
  rw [Tryz.ntmps288,Tryz.results288]
  have F:=ai a1<|ai a2<|ai a3<|ai a4<|ai a5<|ai a6<|ai a7<|a8
  repeat refine st ?_
  exact aR
theorem zh1 {p:OpD->Bool->Prop} (vs ss:Int)
 (h1: ∀n:Int,p ⟨1,n⟩ (decide (0<=n)&&decide (n<=2147483647))) (h2: ∀n:Int,p ⟨2,n⟩ (decide (0<=n)&&decide (n<vs))) (h4: ∀n:Int,p ⟨4,n⟩ (decide (0<=n)&&decide (n<ss)))
 (h: ∀k n:Int,(k==1)=false->(k==2)=false->(k==4)=false->p ⟨k,n⟩ (decide (n=0))) (o:OpD):p o (numB o vs ss):=by
 have ne: ∀a b:Int,a≠b->(a==b)=false:=fun a b h=>by simpa using h
 obtain⟨k,n⟩:=o
 unfold numB
 simp only [Bool.decide_and]
 by_cases a:k=1
 ·subst a; simpa using h1 n
 by_cases b:k=2
 ·subst b; simpa using h2 n
 by_cases c:k=4
 ·subst c; simpa using h4 n
 rw [if_neg a,if_neg b,if_neg c]
 exact h k n (ne _ _ a) (ne _ _ b) (ne _ _ c)
theorem zdf (env:Env) (o:OpD) (vs ss:Int):Con Tryz.prog env 322 [.agg (opAV o),I vs,I ss] (B (numB o vs ss)):=by
 refine zh1 (p:=fun o r=>Con Tryz.prog env 322 [.agg (opAV o),I vs,I ss] (B r)) vs ss (fun n=> ?_) (fun n=> ?_) (fun n=> ?_) (fun k n a1 a2 a3=> ?_) o
 ·refine zaa Tryz.func322 rfl Tryz.call322 (by rw [Tryz.ntmps322]; simp) ?_
  rw [Tryz.ntmps322,Tryz.results322]
  by_cases h1:0<=n<;>by_cases h2:n<=2147483647<;>
  ·have h3:(n<2147483648)=(n<=2147483647):=by rw [eq_iff_iff]; omega
   have F:=ai opAV.eq_1<|ai h1<|ai h2<|h3
   repeat refine st ?_
   exact aR
 ·refine zaa Tryz.func322 rfl Tryz.call322 (by rw [Tryz.ntmps322]; simp) ?_
  rw [Tryz.ntmps322,Tryz.results322]
  by_cases h1:0<=n<;>by_cases h2:n<vs<;>
  ·have F:=ai opAV.eq_1<|ai h1<|h2
   repeat refine st ?_
   exact aR
 ·refine zaa Tryz.func322 rfl Tryz.call322 (by rw [Tryz.ntmps322]; simp) ?_
  rw [Tryz.ntmps322,Tryz.results322]
  by_cases h1:0<=n<;>by_cases h2:n<ss<;>
  ·have F:=ai opAV.eq_1<|ai h1<|h2
   repeat refine st ?_
   exact aR
 ·refine zaa Tryz.func322 rfl Tryz.call322 (by rw [Tryz.ntmps322]; simp) ?_
  rw [Tryz.ntmps322,Tryz.results322]
  by_cases h1:0<=n<;>by_cases h2:n<1<;>
  ·have h3:(n=0)=(0<=n/\n<1):=by rw [eq_iff_iff]; omega
   have F:=ai opAV.eq_1<|ai h1<|ai h2<|ai h3<|ai a1<|ai a2<|a3
   repeat refine st ?_
   exact aR
theorem zdd (env:Env) (o:OpD) (vs ss:Int):Con Tryz.prog env 289 [.agg (opAV o),I vs,I ss] (B (numB o vs ss)):=by
 refine zh1 (p:=fun o r=>Con Tryz.prog env 289 [.agg (opAV o),I vs,I ss] (B r)) vs ss (fun n=> ?_) (fun n=> ?_) (fun n=> ?_) (fun k n a1 a2 a3=> ?_) o
 ·refine zaa Tryz.func289 rfl Tryz.call289 (by rw [Tryz.ntmps289]; simp) ?_
  rw [Tryz.ntmps289,Tryz.results289]
  by_cases h1:0<=n<;>by_cases h2:n<=2147483647<;>
  ·have F:=ai opAV.eq_1<|ai h1<|h2
   repeat refine st ?_
   exact aR
 ·refine zaa Tryz.func289 rfl Tryz.call289 (by rw [Tryz.ntmps289]; simp) ?_
  rw [Tryz.ntmps289,Tryz.results289]
  by_cases h1:0<=n<;>by_cases h2:n<vs<;>
  ·have F:=ai opAV.eq_1<|ai h1<|h2
   repeat refine st ?_
   exact aR
 ·refine zaa Tryz.func289 rfl Tryz.call289 (by rw [Tryz.ntmps289]; simp) ?_
  rw [Tryz.ntmps289,Tryz.results289]
  by_cases h1:0<=n<;>by_cases h2:n<ss<;>
  ·have F:=ai opAV.eq_1<|ai h1<|h2
   repeat refine st ?_
   exact aR
 ·refine zaa Tryz.func289 rfl Tryz.call289 (by rw [Tryz.ntmps289]; simp) ?_
  rw [Tryz.ntmps289,Tryz.results289]
  have h3:decide (n=0)=(n==0):=by rw [Bool.eq_iff_iff]; simp
  rw [h3]
  have F:=ai opAV.eq_1<|ai a1<|ai a2<|a3
  repeat refine st ?_
  exact aR
/-! States' kinds -/
theorem zdP (env:Env) (s:StD):Con Tryz.prog env 204 [.agg (stAV s)] (B (zbh s)):=by
 unfold zbh
 refine zaa Tryz.func204 rfl Tryz.call204 (by rw [Tryz.ntmps204]; simp) ?_
 rw [Tryz.ntmps204,Tryz.results204]
 cases h1:(s.kind==4)<;>cases h2:(s.kind==5)<;>
 ·have F:=ai stAV.eq_1<|ai h1<|h2
  repeat refine st ?_
  exact aR
theorem zbi (env:Env) (s:StD):Con Tryz.prog env 157 [.agg (stAV s)] (B (zbh s)):=by
 unfold zbh
 refine zaa Tryz.func157 rfl Tryz.call157 (by rw [Tryz.ntmps157]; simp) ?_
 rw [Tryz.ntmps157,Tryz.results157]
 cases h1:(s.kind==4)<;>cases h2:(s.kind==5)<;>
 ·have F:=ai stAV.eq_1<|ai h1<|h2
  repeat refine st ?_
  exact aR
theorem zdg (env:Env) (s:StD):Con Tryz.prog env 202 [.agg (stAV s)] (B (zcq s)):=by
 unfold zcq
 refine zaa Tryz.func202 rfl Tryz.call202 (by rw [Tryz.ntmps202]; simp) ?_
 rw [Tryz.ntmps202,Tryz.results202]
 cases h1:(s.kind==1)<;>cases h2:(s.kind==2)<;>
 ·have F:=ai stAV.eq_1<|ai h1<|h2
  repeat refine st ?_
  exact aR
theorem zde (env:Env) (s:StD):Con Tryz.prog env 113 [.agg (stAV s)] (B (zcq s)):=by
 unfold zcq
 refine zaa Tryz.func113 rfl Tryz.call113 (by rw [Tryz.ntmps113]; simp) ?_
 rw [Tryz.ntmps113,Tryz.results113]
 cases h1:(s.kind==1)<;>cases h2:(s.kind==2)<;>
 ·have F:=ai stAV.eq_1<|ai h1<|h2
  repeat refine st ?_
  exact aR
end
section
open Go.RowKit
end
section
open Go.RowKit
end

end Go.Proofs.YtnbjaghjdeicmaaGreatDoor