/- errors.As at a **api.Fault (after the kit's example ToyasAs, turned to this program); fault.Page. -/
import Derived.Test.YtlmekdfleciejaaGreatDoorD10
import Derived.Test.YtlmekdfleciejaaGreatDoorD13
import Derived.WalkKit
import Derived.LaidEql
import Derived.Stop.Asserts
import Derived.RowKitTokens
namespace Go.Proofs.YtlmekdfleciejaaGreatDoor
section
open Go.RowKit
def inZ (c:ChD) (i:Int):Bool:=decide (0<=i)&&decide (i<c.states.length)
def parZ (c:ChD) (i:Int):Int:=match at_ c i with
 | some s=>s.parent
 | none=> -1
theorem zag {c:ChD} {i:Int} :inZ c i=true↔0<=i/\i<c.states.length:=by
 unfold inZ
 rw [Bool.and_eq_true,decide_eq_true_eq,decide_eq_true_eq]
theorem zaM {c:ChD} {k:Nat} :inZ c k=true↔k<c.states.length:=by rw [zag]; omega
theorem zbp (c:ChD) (k:Nat):at_ c k=c.states[k]? :=by unfold at_; rw [if_pos (by omega),Int.toNat_natCast]
theorem zb0 {c:ChD} {i:Int} (h:inZ c i=true): ∃k s,i=(k:Nat)/\c.states[k]? =some s/\at_ c i=some s:=by
 obtain⟨h1,h2⟩:=zag.1 h
 have hk:i.toNat<c.states.length:=by omega
 refine⟨i.toNat,c.states[i.toNat],by omega,List.getElem?_eq_getElem hk, ?_⟩
 unfold at_
 rw [if_pos h1,List.getElem?_eq_getElem hk]
theorem zbF {c:ChD} (h:Right c) {i:Int} (hi:inZ c i=true): -1<=parZ c i/\parZ c i<i:=by
 obtain⟨k,s,rfl,h1,h2⟩:=zb0 hi
 unfold parZ
 rw [h2]
 exact h.par k s h1
theorem zcx {c:ChD} {k:Nat} {s:StD} (h:c.states[k]? =some s):parZ c k=s.parent:=by
 unfold parZ
 rw [zbp,h]
/-! The way up -/
def upF (c:ChD):Nat->Int->List Int
 | 0,_=>[]
 | f+1,i=>if inZ c i=true then parZ c i::upF c f (parZ c i) else []
def upL (c:ChD) (i:Int):List Int:=upF c 40 i
theorem zdY {c:ChD} {i:Int} (h:inZ c i=false) (f:Nat):upF c f i=[]:=by
 cases f with
 | zero=>rfl
 | succ f=>unfold upF; rw [h]; simp
theorem zmS {c:ChD} (h:Right c): ∀(f g:Nat) (i:Int),i<f->i<g->upF c f i=upF c g i
 | 0,g,i,h1,h2=>by
   have:inZ c i=false:=by
    cases hh:inZ c i
    ·rfl
    ·have:=zag.1 hh; omega
   rw [zdY this,zdY this]
 | f+1,g,i,h1,h2=>by
   cases hh:inZ c i with
   | false=>rw [zdY hh,zdY hh]
   | true=>
     have h0:=(zag.1 hh).1
     obtain⟨g',rfl⟩: ∃g',g=g'+1:=⟨g-1,by omega⟩
     have:=zbF h hh
     unfold upF
     rw [hh]
     simp only [if_true]
     rw [zmS h f g' (parZ c i) (by omega) (by omega)]
theorem zbq {c:ChD} {i:Int} (h:inZ c i=false):upL c i=[]:=zdY h _
theorem zhw {c:ChD} (h:Right c) {i:Int} (hi:inZ c i=true):upL c i=parZ c i::upL c (parZ c i):=by
 have hf:=h.few
 have h2:=zag.1 hi
 have h3:=zbF h hi
 show upF c (39+1) i=parZ c i::upF c 40 (parZ c i)
 rw [show upF c (39+1) i=if inZ c i=true then parZ c i::upF c 39 (parZ c i) else [] from rfl,if_pos hi,zmS h 39 40 _ (by omega) (by omega)]
theorem zeG {c:ChD} (h:Right c): ∀(f:Nat) (i:Int) (k:Int),k∈upF c f i-> -1<=k/\k<i
 | 0,i,k,hk=>by simp [upF] at hk
 | f+1,i,k,hk=>by
   cases hh:inZ c i with
   | false=>rw [zdY hh] at hk; simp at hk
   | true=>
     have:=zbF h hh
     unfold upF at hk
     rw [hh] at hk
     simp only [if_true,List.mem_cons] at hk
     rcases hk with rfl | hk
     ·exact this
     ·have:=zeG h f _ k hk
      omega
theorem zbr {c:ChD} (h:Right c) {i:Int} (hi:inZ c i=true) {k:Int} :k∈upL c i↔k=parZ c i\/k∈upL c (parZ c i):=by rw [zhw h hi,List.mem_cons]
theorem zfQ {c:ChD} : ∀(f:Nat) (i:Int),(upF c f i).length<=f
 | 0,i=>by simp [upF]
 | f+1,i=>by
   unfold upF
   split
   ·have:=zfQ (c:=c) f (parZ c i); simp; omega
   ·simp
theorem zhu {c:ChD} (h:Right c): ∀(n:Nat) (i:Int),inZ c i=true->i<n-> -1∈upL c i
 | 0,i,hi,hn=>by have:=zag.1 hi; omega
 | n+1,i,hi,hn=>by
   rw [zbr h hi]
   have hp:=zbF h hi
   by_cases e:parZ c i= -1
   ·exact .inl e.symm
   ·have h2:=zag.1 hi
    exact .inr (zhu h n _ (zag.2 (by omega)) (by omega))
theorem zdy {c:ChD} (h:Right c): ∀(n:Nat) (i j k:Int),i<n->j∈upL c i->k∈upL c j->k∈upL c i
 | 0,i,j,k,hn,hj,hk=>by
   cases hh:inZ c i with
   | false=>rw [zbq hh] at hj; simp at hj
   | true=>have:=zag.1 hh; omega
 | n+1,i,j,k,hn,hj,hk=>by
   cases hh:inZ c i with
   | false=>rw [zbq hh] at hj; simp at hj
   | true=>
     rw [zbr h hh] at hj |-
     have hp:=zbF h hh
     rcases hj with rfl | hj
     ·exact .inr hk
     ·exact .inr (zdy h n _ j k (by omega) hj hk)
/-! What is above a state, as bits -/
def znF (c:ChD):Nat->Int->Nat
 | 0,_=>0
 | f+1,i=>if inZ c i=true then(if 0<=parZ c i then znF c f (parZ c i)||| 2^(parZ c i).toNat else 0) else 0
theorem zhR {c:ChD} (h:Right c): ∀(f:Nat) (i:Int) (k:Nat),(znF c f i).testBit k=decide ((k:Int)∈upF c f i)
 | 0,i,k=>by simp [znF,upF]
 | f+1,i,k=>by
   unfold znF upF
   cases hh:inZ c i with
   | false=>simp
   | true=>
     simp only [if_true]
     have hp:=zbF h hh
     by_cases e:0<=parZ c i
     ·rw [if_pos e,Nat.testBit_or,zhR h f,Nat.testBit_two_pow]
      by_cases e2:(k:Int)=parZ c i
      ·have:(parZ c i).toNat=k:=by omega
       simp [e2,this]
      ·have: ¬(parZ c i).toNat=k:=by omega
       simp [e2,this]
     ·rw [if_neg e]
      have hm:parZ c i= -1:=by omega
      have hz:inZ c (-1)=false:=by
       cases hq:inZ c (-1)
       ·rfl
       ·have:=zag.1 hq; omega
      rw [hm,zdY hz]
      simp
def mask (c:ChD) (i:Int):Nat:=znF c 40 i
theorem zhS {c:ChD} (h:Right c) (i:Int) (k:Nat):(mask c i).testBit k=decide ((k:Int)∈upL c i):=zhR h 40 i k
theorem zeT {c:ChD} (h:Right c) {i:Int} (hi:i<32):mask c i<2^32:=by
 apply Nat.lt_pow_two_of_testBit
 intro k hk
 rw [zhS h]
 simp only [decide_eq_false_iff_not]
 intro hm
 have:=zeG h 40 i k hm
 omega
theorem ziL {c:ChD} (h:Right c) {i:Int} (hi:inZ c i=true):mask c i=if 0<=parZ c i then mask c (parZ c i)||| 2^(parZ c i).toNat else 0:=by
 apply Nat.eq_of_testBit_eq
 intro k
 have hp:=zbF h hi
 rw [zhS h,zhw h hi]
 by_cases e:0<=parZ c i
 ·rw [if_pos e,Nat.testBit_or,zhS h,Nat.testBit_two_pow]
  by_cases e2:(k:Int)=parZ c i
  ·have:(parZ c i).toNat=k:=by omega
   simp [e2,this]
  ·have: ¬(parZ c i).toNat=k:=by omega
   simp [e2,this]
 ·rw [if_neg e]
  have hm:parZ c i= -1:=by omega
  have hz:inZ c (-1)=false:=by
   cases hq:inZ c (-1)
   ·rfl
   ·have:=zag.1 hq; omega
  rw [hm,zbq hz]
  simp
theorem zbn {α β:Type} {f g:α->List β} : ∀ {l:List α},(∀x∈l,f x=g x)->l.flatMap f=l.flatMap g
 | [],_=>rfl
 | x::l,h=>by
   simp only [List.flatMap_cons]
   rw [h x (by simp),zbn fun y hy=>h y (by simp [hy])]
/-! The walk -/
def zhs (c:ChD):Nat->Int->List Nat
 | 0,_=>[]
 | f+1,i=>(kidsL c i false).flatMap fun k=>k::zhs c f k
def walkL (c:ChD) (i:Int):List Nat:=zhs c 40 i
theorem zdn {c:ChD} {i:Int} {k:Nat} :k∈kidsL c i false↔k<c.states.length/\parZ c k=i:=by
 unfold kidsL zaT
 rw [List.mem_filter,List.mem_range]
 constructor
 ·rintro⟨h1,h2⟩
  obtain⟨s,hs⟩: ∃s,c.states[k]? =some s:=⟨c.states[k],List.getElem?_eq_getElem h1⟩
  refine⟨h1, ?_⟩
  unfold zbL at h2
  rw [hs] at h2
  rw [zcx hs]
  simpa using h2
 ·rintro⟨h1,h2⟩
  obtain⟨s,hs⟩: ∃s,c.states[k]? =some s:=⟨c.states[k],List.getElem?_eq_getElem h1⟩
  refine⟨h1, ?_⟩
  unfold zbL
  rw [hs]
  rw [zcx hs] at h2
  simp [h2]
theorem zcg (c:ChD) (i:Int) (real:Bool):(kidsL c i real).Nodup:=List.Nodup.sublist List.filter_sublist List.nodup_range
theorem zaO {c:ChD} {i:Int} {k:Nat} (h:k∈kidsL c i true):k∈kidsL c i false/\ ∃s,c.states[k]? =some s/\zat s=false:=by
 unfold kidsL zaT at h |-
 rw [List.mem_filter] at h |-
 obtain⟨h1,h2⟩:=h
 unfold zbL at h2 |-
 cases hs:c.states[k]? with
 | none=>rw [hs] at h2; cases h2
 | some s=>
   rw [hs] at h2
   simp at h2 |-
   exact⟨⟨by simpa using h1,h2.1⟩,h2.2⟩
theorem za0 {c:ChD} (h:Right c) {i:Int} {k:Nat} (hk:k∈kidsL c i false):i<k/\k<c.states.length:=by
 obtain⟨h1,h2⟩:=zdn.1 hk
 have:=zbF h (zaM.2 h1)
 omega
theorem zmL {c:ChD} (h:Right c): ∀(f g:Nat) (i:Int),(c.states.length:Int)<=i+f->(c.states.length:Int)<=i+g->zhs c f i=zhs c g i:=by
 have none: ∀(g:Nat) (i:Int),(c.states.length:Int)<=i->zhs c g i=[]:=fun g i hi=>by
  cases g with
  | zero=>rfl
  | succ g=>
    unfold zhs
    have:kidsL c i false=[]:=List.eq_nil_iff_forall_not_mem.2 fun k hk=>by have:=za0 h hk; omega
    rw [this]
    rfl
 intro f
 induction f with
 | zero=>intro g i h1 h2; rw [none g i (by omega)]; rfl
 | succ f ih=>
   intro g i h1 h2
   cases g with
   | zero=>rw [none (f+1) i (by omega)]; rfl
   | succ g=>
     unfold zhs
     apply zbn
     intro k hk
     have:=za0 h hk
     rw [ih g k (by omega) (by omega)]
theorem walk_eq {c:ChD} (h:Right c) {i:Int} (_hi: -1<=i):walkL c i=(kidsL c i false).flatMap fun k=>k::walkL c k:=by
 have hf:=h.few
 show (kidsL c i false).flatMap (fun k=>k::zhs c 39 k)=_
 apply zbn
 intro k hk
 have:=za0 h hk
 rw [show zhs c 39 k=walkL c k from zmL h 39 40 k (by omega) (by omega)]
theorem zdx {c:ChD} (h:Right c): ∀(n:Nat) (i:Int) (m:Nat), -1<=i->(c.states.length:Int)<=i+n->(m∈walkL c i↔m<c.states.length/\i∈upL c m)
 | 0,i,m,hi,hn=>by
   rw [walk_eq h hi]
   have:kidsL c i false=[]:=List.eq_nil_iff_forall_not_mem.2 fun k hk=>by have:=za0 h hk; omega
   rw [this]
   simp only [List.flatMap_nil,List.not_mem_nil,false_iff,not_and]
   intro h1 h2
   have:=zeG h 40 m i h2
   omega
 | n+1,i,m,hi,hn=>by
   rw [walk_eq h hi,List.mem_flatMap]
   constructor
   ·rintro⟨k,hk,hm⟩
    have hg:=za0 h hk
    obtain⟨k1,k2⟩:=zdn.1 hk
    rcases List.mem_cons.1 hm with rfl | hm
    ·exact⟨k1,(zbr h (zaM.2 k1)).2 (.inl k2.symm)⟩
    ·obtain⟨m1,m2⟩:=(zdx h n k m (by omega) (by omega)).1 hm
     refine⟨m1,zdy h 40 m k i (by have:=h.few; omega) m2 ((zbr h (zaM.2 k1)).2 (.inl k2.symm))⟩
   ·rintro⟨h1,h2⟩
    have key: ∀(d:Nat) (m:Nat),m<d->m<c.states.length->i∈upL c m-> ∃k∈kidsL c i false,m=k\/(k:Int)∈upL c m:=fun d=>by
     induction d with
     | zero=>intro m hd; omega
     | succ d ih=>
       intro m hd hm hu
       have hin:=zaM.2 hm
       rcases (zbr h hin).1 hu with e | e
       ·exact⟨m,zdn.2 ⟨hm,e.symm⟩, .inl rfl⟩
       ·have hp:=zbF h hin
        have h0:0<=parZ c m:=by
         rcases Int.lt_or_le (parZ c m) 0 with q | q
         ·have hz:inZ c (parZ c m)=false:=by
           cases hq:inZ c (parZ c m)
           ·rfl
           ·have:=zag.1 hq; omega
          rw [zbq hz] at e; simp at e
         ·exact q
        obtain⟨p,hpe⟩: ∃p:Nat,parZ c m=p:=⟨(parZ c m).toNat,by omega⟩
        rw [hpe] at e hp
        obtain⟨k,hk,hk2⟩:=ih p (by omega) (by omega) e
        refine⟨k,hk, .inr ((zbr h hin).2 ?_)⟩
        rw [hpe]
        rcases hk2 with rfl | hk2
        ·exact .inl rfl
        ·exact .inr hk2
    obtain⟨k,hk,hk2⟩:=key (m+1) m (by omega) h1 h2
    have hg:=za0 h hk
    refine⟨k,hk,List.mem_cons.2 ?_⟩
    rcases hk2 with e | e
    ·exact .inl e
    ·exact .inr ((zdx h n k m (by omega) (by omega)).2 ⟨h1,e⟩)
theorem zkL {c:ChD} (h:Right c) (m:Nat):m∈walkL c (-1)↔m<c.states.length:=by
 rw [zdx h 40 (-1) m (by omega) (by have:=h.few; omega)]
 exact⟨fun h=>h.1,fun hm=>⟨hm,zhu h (m+1) m (zaM.2 hm) (by omega)⟩⟩
theorem zkl {c:ChD} (h:Right c) {i:Int} {k1 k2:Nat} (h1:k1∈kidsL c i false) (h2:k2∈kidsL c i false): ∀(d m:Nat),m<d->m<c.states.length->(m=k1\/(k1:Int)∈upL c m)->(m=k2\/(k2:Int)∈upL c m)->k1=k2:=by
 obtain⟨a1,b1⟩:=zdn.1 h1
 obtain⟨a2,b2⟩:=zdn.1 h2
 have no: ∀ {x y:Nat},x<c.states.length->parZ c x=i->y<c.states.length->parZ c y=i-> ¬(y:Int)∈upL c x:=fun {x y} hx px hy py hm=>by
  have q1:=zbF h (zaM.2 hx)
  have q2:=zbF h (zaM.2 hy)
  rcases (zbr h (zaM.2 hx)).1 hm with e | e
  ·omega
  ·have:=zeG h 40 _ _ e
   omega
 intro d
 induction d with
 | zero=>intro m hd; omega
 | succ d ih=>
   intro m hd hm e1 e2
   rcases e1 with rfl | e1
   ·rcases e2 with rfl | e2
    ·rfl
    ·exact absurd e2 (no a1 b1 a2 b2)
   ·rcases e2 with rfl | e2
    ·exact absurd e1 (no a2 b2 a1 b1)
    ·have hin:=zaM.2 hm
     have hp:=zbF h hin
     have h0:0<=parZ c m:=by
      rcases Int.lt_or_le (parZ c m) 0 with q | q
      ·have hz:inZ c (parZ c m)=false:=by
        cases hq:inZ c (parZ c m)
        ·rfl
        ·have:=zag.1 hq; omega
       rw [zbr h hin,zbq hz] at e1
       rcases e1 with e | e
       ·omega
       ·simp at e
      ·exact q
     obtain⟨p,hpe⟩: ∃p:Nat,parZ c m=p:=⟨(parZ c m).toNat,by omega⟩
     rw [zbr h hin,hpe] at e1 e2
     rw [hpe] at hp
     exact ih p (by omega) (by omega) (by rcases e1 with e | e; exact .inl (by omega); exact .inr e) (by rcases e2 with e | e; exact .inl (by omega); exact .inr e)
theorem zeF {c:ChD} (h:Right c): ∀(n:Nat) (i:Int), -1<=i->(c.states.length:Int)<=i+n->(walkL c i).Nodup
 | 0,i,hi,hn=>by
   rw [walk_eq h hi]
   have:kidsL c i false=[]:=List.eq_nil_iff_forall_not_mem.2 fun k hk=>by have:=za0 h hk; omega
   rw [this]
   simp
 | n+1,i,hi,hn=>by
   rw [walk_eq h hi]
   have mem: ∀k∈kidsL c i false,∀m,m∈k::walkL c k->m<c.states.length/\(m=k\/(k:Int)∈upL c m):=fun k hk m hm=>by
    have hg:=za0 h hk
    rcases List.mem_cons.1 hm with rfl | hm
    ·exact⟨hg.2, .inl rfl⟩
    ·obtain⟨q1,q2⟩:=(zdx h n k m (by omega) (by omega)).1 hm
     exact⟨q1, .inr q2⟩
   have hnd:=zcg c i false
   rw [List.nodup_iff_pairwise_ne] at hnd
   rw [List.nodup_iff_pairwise_ne,List.pairwise_flatMap]
   refine⟨fun k hk=> ?_, ?_⟩
   ·rw [<-List.nodup_iff_pairwise_ne,List.nodup_cons]
    have hg:=za0 h hk
    refine⟨fun hm=> ?_,zeF h n k (by omega) (by omega)⟩
    have:=(zdx h n k k (by omega) (by omega)).1 hm
    have:=zeG h 40 _ _ this.2
    omega
   ·refine List.Pairwise.imp_of_mem (R:=fun a b=>a≠b) ?_ hnd
    intro k1 k2 hk1 hk2 hne m1 hm1 m2 hm2 e
    subst e
    obtain⟨q1,q2⟩:=mem k1 hk1 m1 hm1
    obtain⟨_,q3⟩:=mem k2 hk2 m1 hm2
    exact hne (zkl h hk1 hk2 (m1+1) m1 (by omega) q1 q2 q3)
/-! Sorting by the walk -/
def sortL (c:ChD) (l:List Int):List Nat:=if l.all (inZ c)=true then(walkL c (-1)).filter fun k=>l.contains (k:Int) else []
end
section
open Go.RowKit
structure Full (c:ChD):Prop extends Right c where
 st: ∀(k:Nat) (s:StD),c.states[k]? =some s->zap c k s=true
 tr: ∀(k:Nat) (t:TrD),c.trans[k]? =some t->zcq c t=true
 ini:topB c=true
 ftr:c.trans.length<=64
theorem full_of {c:ChD} (h:(chk c).1=0):Full c:=by
 refine⟨zkT h, ?_, ?_, ?_, ?_⟩<;>
 ·unfold chk at h
  split at h
  ·simp at h
  rename_i h1
  split at h
  ·simp at h
  split at h
  ·simp at h
  split at h
  ·simp at h
  rename_i h3
  split at h
  ·simp at h
  rename_i h4
  split at h
  ·simp at h
  rename_i h5
  first
   |(intro k s hs
     have:=zbQ h3 k (List.getElem?_eq_some_iff.1 hs).1
     unfold zfy at this
     rw [hs] at this
     exact this)
   |(intro k t ht
     have:=zbQ h5 k (List.getElem?_eq_some_iff.1 ht).1
     unfold zh6 at this
     rw [ht] at this
     exact this)
   |(simpa using h4)
   | omega
theorem Full.shape {c:ChD} (h:Full c) {k:Nat} {s:StD} (hs:c.states[k]? =some s):zan c k s=true:=by
 have:=h.st k s hs
 simp only [zap,Bool.and_eq_true] at this
 exact this.1.1.2
theorem zhV {l:List Nat} {n:Int} :inL l n=true↔ ∃k∈l,(k:Int)=n:=by
 unfold inL
 rw [List.any_eq_true]
 simp
theorem Full.cases {c:ChD} (h:Full c) {k:Nat} {s:StD} (hs:c.states[k]? =some s):
 (s.kind=1/\((kidsL c k true=[]/\s.initial= -1)\/ ∃j∈kidsL c k true,s.initial=(j:Nat)))\/(s.kind=2/\s.initial= -1/\kidsL c k true≠[]/\ ∀j∈kidsL c k true,zar c j=true)\/
  (s.kind=3/\kidsL c k false=[]/\s.initial= -1)\/((s.kind=4\/s.kind=5)/\kidsL c k false=[]/\zaB c s=true/\inL (kidsL c s.parent true) s.initial=true):=by
 have hb:=h.shape hs
 unfold zan at hb
 split at hb
 ·rename_i e
  refine .inl ⟨e, ?_⟩
  split at hb
  ·rename_i e2
   exact .inl ⟨e2,by simpa using hb⟩
  ·obtain⟨j,hj,e3⟩:=zhV.1 hb
   exact .inr ⟨j,hj,e3.symm⟩
 split at hb
 ·rename_i e
  simp only [Bool.and_eq_true,decide_eq_true_eq,beq_iff_eq,List.all_eq_true] at hb
  exact .inr (.inl ⟨e,hb.2,fun e2=>by rw [e2] at hb; simp at hb,hb.1.1⟩)
 split at hb
 ·rename_i e
  simp only [Bool.and_eq_true,beq_iff_eq] at hb
  exact .inr (.inr (.inl ⟨e,by simpa using hb.1.1.1,hb.1.2⟩))
 split at hb
 ·rename_i e
  simp only [Bool.and_eq_true,beq_iff_eq] at hb
  exact .inr (.inr (.inr ⟨e,by simpa using hb.1.1.1.1,hb.1.1.1.2,hb.1.1.2⟩))
 ·cases hb
theorem zeR {c:ChD} {i:Int} (h:kidsL c i false=[]):kidsL c i true=[]:=by
 apply List.eq_nil_iff_forall_not_mem.2
 intro k hk
 have:=(zaO hk).1
 rw [h] at this
 simp at this
abbrev zL (l:List Nat):List Int:=l.map fun k:Nat=>(k:Int)
/-! What begins with a state -/
def bgF (c:ChD):Nat->Nat->List Nat
 | 0,_=>[]
 | f+1,i=>i::match c.states[i]? with
   | some s=>if s.kind=1/\0<=s.initial then bgF c f s.initial.toNat else if s.kind=2 then(kidsL c i true).flatMap (bgF c f) else []
   | none=>[]
def bgL (c:ChD) (i:Nat):List Nat:=bgF c 40 i
theorem zkm {c:ChD} (h:Full c) {i:Nat} {s:StD} (hs:c.states[i]? =some s) (h1:s.kind=1) (h0:0<=s.initial): ∃j∈kidsL c i true,s.initial=(j:Nat):=by
 rcases h.cases hs with⟨_,⟨_,e⟩ | e⟩ | ⟨e,_⟩ | ⟨e,_⟩ | ⟨e,_⟩
 ·omega
 ·exact e
 ·omega
 ·omega
 ·omega
theorem zkC {c:ChD} (h:Full c): ∀(f g:Nat) (i:Nat),i<c.states.length->c.states.length<=i+f->c.states.length<=i+g->bgF c f i=bgF c g i
 | 0,g,i,h0,h1,h2=>by omega
 | f+1,0,i,h0,h1,h2=>by omega
 | f+1,g+1,i,h0,h1,h2=>by
   unfold bgF
   congr 1
   cases hs:c.states[i]? with
   | none=>rfl
   | some s=>
     simp only
     split
     ·rename_i e
      obtain⟨j,hj,e2⟩:=zkm h hs e.1 e.2
      have:=za0 h.toRight (zaO hj).1
      rw [e2,Int.toNat_natCast]
      exact zkC h f g j (by omega) (by omega) (by omega)
     ·split
      ·apply zbn
       intro k hk
       have:=za0 h.toRight (zaO hk).1
       exact zkC h f g k (by omega) (by omega) (by omega)
      ·rfl
theorem zpN (c:ChD) (f i:Nat):bgF c (f+1) i=i::match c.states[i]? with
 | some s=>if s.kind=1/\0<=s.initial then bgF c f s.initial.toNat else if s.kind=2 then(kidsL c i true).flatMap (bgF c f) else []
 | none=>[]:=rfl
theorem zre {c:ChD} (h:Full c) {i:Nat} {s:StD} (hs:c.states[i]? =some s):bgL c i=i::if s.kind=1/\0<=s.initial then bgL c s.initial.toNat else if s.kind=2 then(kidsL c i true).flatMap (bgL c) else []:=by
 have hi:=(List.getElem?_eq_some_iff.1 hs).1
 have hf:=h.few
 have e0:=zpN c 39 i
 rw [hs] at e0
 simp only at e0
 have e1: ∀j,j∈kidsL c i true->bgF c 39 j=bgL c j:=fun j hj=>by
  have:=za0 h.toRight (zaO hj).1
  exact zkC h 39 40 j (by omega) (by omega) (by omega)
 refine Eq.trans e0 (congrArg (List.cons i) ?_)
 by_cases q:s.kind=1/\0<=s.initial
 ·rw [if_pos q,if_pos q]
  obtain⟨j,hj,e2⟩:=zkm h hs q.1 q.2
  rw [e2,Int.toNat_natCast]
  exact e1 j hj
 ·rw [if_neg q,if_neg q]
  by_cases q2:s.kind=2
  ·rw [if_pos q2,if_pos q2]
   exact zbn e1
  ·rw [if_neg q2,if_neg q2]
theorem zfo {α β:Type} {f:α->List β} : ∀ {l:List α},(∀x∈l,f x=[])->l.flatMap f=[]
 | [],_=>rfl
 | x::l,h=>by
   simp only [List.flatMap_cons]
   rw [h x (by simp),zfo fun y hy=>h y (by simp [hy])]
   rfl
theorem flatMap_one {α β:Type} {f:α->List β} {a:α} : ∀ {l:List α},l.Nodup->a∈l->(∀x∈l,x≠a->f x=[])->l.flatMap f=f a
 | [],_,ha,_=>by simp at ha
 | x::l,hn,ha,h=>by
   obtain⟨h1,h2⟩:=List.nodup_cons.1 hn
   simp only [List.flatMap_cons]
   by_cases e:x=a
   ·subst e
    rw [zfo fun y hy=>h y (by simp [hy]) fun e=>h1 (e ▸ hy),List.append_nil]
   ·rw [h x (by simp) e,List.nil_append]
    exact flatMap_one h2 ((List.mem_cons.1 ha).resolve_left (Ne.symm e)) fun y hy=>h y (by simp [hy])
theorem zqe {c:ChD} (h:Full c) {i:Nat} {s:StD} (hs:c.states[i]? =some s):bgL c i=i::(kidsL c i true).flatMap fun k=>if s.kind=2\/s.initial=(k:Nat) then bgL c k else []:=by
 rw [zre h hs]
 congr 1
 rcases h.cases hs with⟨e,⟨e1,e2⟩ | ⟨j,hj,e2⟩⟩ | ⟨e,e1,_⟩ | ⟨e,e1,_⟩ | ⟨e,e1,_⟩
 ·rw [e1,if_neg (by omega),if_neg (by omega)]
  rfl
 ·rw [if_pos ⟨e,by omega⟩,e2,Int.toNat_natCast]
  rw [flatMap_one (zcg c i true) hj fun x _ hne=>by rw [if_neg]; omega]
  rw [if_pos (.inr rfl)]
 ·rw [if_neg (by omega),if_pos e]
  apply zbn
  intro k _
  rw [if_pos (.inl e)]
 ·rw [if_neg (by omega),if_neg (by omega),zeR e1]
  rfl
 ·rw [if_neg (by omega),if_neg (by omega),zeR e1]
  rfl
def sbL (c:ChD) (i:Nat):List Nat:=sortL c (zL (bgL c i))
end
section
open Go.RowKit Go.Extern.Stop Go.Stop Go.Extern
end

end Go.Proofs.YtlmekdfleciejaaGreatDoor