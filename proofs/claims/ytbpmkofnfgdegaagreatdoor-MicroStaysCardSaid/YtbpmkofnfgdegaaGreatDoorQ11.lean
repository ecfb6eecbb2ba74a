/- Contracts of expressions' checks, of numbers among numbers: by the walk without memory. -/
import Derived.Test.YtbpmkofnfgdegaaGreatDoorQ10
import Derived.Test.YtbpmkofnfgdegaaGreatDoorQ6
import Derived.Test.YtbpmkofnfgdegaaGreatDoorQ8
import Derived.Test.YtbpmkofnfgdegaaGreatDoorQ9
import Derived.Test.YtbpmkofnfgdegaaGreatDoorQ5
import Derived.WalkKit
import Derived.LaidEql
import Derived.Stop.Asserts
import Derived.RowKitTokens
set_option maxRecDepth 100000
set_option maxHeartbeats 8000000
set_option linter.unusedSimpArgs false
namespace Go.Proofs.YtbpmkofnfgdegaaGreatDoor
open Go.Proofs.Tryz
section
open Go.RowKit
def inZ (c:ChD) (i:Int):Bool:=decide (0<=i)&&decide (i<c.states.length)
def parZ (c:ChD) (i:Int):Int:=match at_ c i with
 |some s=>s.parent
 |none=> -1
theorem zag {c:ChD} {i:Int} :inZ c i=true↔0<=i/\i<c.states.length:=by
 unfold inZ;rw[Bool.and_eq_true,decide_eq_true_eq,decide_eq_true_eq]
theorem zar {c:ChD} {k:Nat} :inZ c k=true↔k<c.states.length:=by rw[zag];omega
theorem zaM (c:ChD) (k:Nat):at_ c k=c.states[k]? :=by unfold at_;rw[if_pos (by omega),Int.toNat_natCast]
theorem zb9 {c:ChD} {i:Int} (h:inZ c i=true): ∃k s,i=(k:Nat)/\c.states[k]? =some s/\at_ c i=some s:=by
 obtain⟨h1,h2⟩:=zag.1 h;have hk:i.toNat<c.states.length:=by omega
 refine⟨i.toNat,c.states[i.toNat],by omega,List.getElem?_eq_getElem hk,?_⟩;unfold at_;rw[if_pos h1,List.getElem?_eq_getElem hk]
theorem zb0 {c:ChD} (h:Right c) {i:Int} (hi:inZ c i=true): -1<=parZ c i/\parZ c i<i:=by
 obtain⟨k,s,rfl,h1,h2⟩:=zb9 hi;unfold parZ;rw[h2];exact h.par k s h1
theorem zck {c:ChD} {k:Nat} {s:StD} (h:c.states[k]? =some s):parZ c k=s.parent:=by
 unfold parZ;rw[zaM,h]
/-! The way up -/
def upF (c:ChD):Nat->Int->List Int
 |0,_=>[]
 |f+1,i=>if inZ c i=true then parZ c i::upF c f (parZ c i) else []
def upL (c:ChD) (i:Int):List Int:=upF c 40 i
theorem zeU {c:ChD} {i:Int} (h:inZ c i=false) (f:Nat):upF c f i=[]:=by
 cases f with
 |zero=>rfl
 |succ f=>unfold upF;rw[h];simp
theorem zqE {c:ChD} (h:Right c): ∀(f g:Nat) (i:Int),i<f->i<g->upF c f i=upF c g i
 | 0,g,i,h1,h2=>by
   have:inZ c i=false:=by
    cases hh:inZ c i
    ·rfl
    ·have:=zag.1 hh;omega
   rw[zeU this,zeU this]
 | f+1,g,i,h1,h2=>by
   cases hh:inZ c i with
   |false=>rw[zeU hh,zeU hh]
   | true=>
     have h0:=(zag.1 hh).1;obtain⟨g',rfl⟩: ∃g',g=g'+1:=⟨g-1,by omega⟩;have:=zb0 h hh;unfold upF;rw[hh];simp only[if_true];rw[zqE h f g' (parZ c i) (by omega) (by omega)]
theorem zbr {c:ChD} {i:Int} (h:inZ c i=false):upL c i=[]:=zeU h _
theorem zjf {c:ChD} (h:Right c) {i:Int} (hi:inZ c i=true):upL c i=parZ c i::upL c (parZ c i):=by
 have hf:=h.few;have h2:=zag.1 hi;have h3:=zb0 h hi;show upF c (39+1) i=parZ c i::upF c 40 (parZ c i);rw[show upF c (39+1) i=if inZ c i=true then parZ c i::upF c 39 (parZ c i) else [] from rfl,if_pos hi,zqE h 39 40 _ (by omega) (by omega)]
theorem ze8 {c:ChD} (h:Right c): ∀(f:Nat) (i:Int) (k:Int),k∈upF c f i-> -1<=k/\k<i
 |0,i,k,hk=>by simp[upF]at hk
 | f+1,i,k,hk=>by
   cases hh:inZ c i with
   |false=>rw[zeU hh]at hk;simp at hk
   | true=>
     have:=zb0 h hh;unfold upF at hk;rw[hh]at hk;simp only[if_true,List.mem_cons]at hk;rcases hk with rfl|hk
     ·exact this
     ·have:=ze8 h f _ k hk;omega
theorem zbF {c:ChD} (h:Right c) {i:Int} (hi:inZ c i=true) {k:Int} :k∈upL c i↔k=parZ c i\/k∈upL c (parZ c i):=by rw[zjf h hi,List.mem_cons]
theorem zf9 {c:ChD} : ∀(f:Nat) (i:Int),(upF c f i).length<=f
 |0,i=>by simp[upF]
 | f+1,i=>by
   unfold upF;split
   ·have:=zf9 (c:=c) f (parZ c i);simp;omega
   ·simp
theorem zjd {c:ChD} (h:Right c): ∀(n:Nat) (i:Int),inZ c i=true->i<n-> -1∈upL c i
 |0,i,hi,hn=>by have:=zag.1 hi;omega
 | n+1,i,hi,hn=>by
   rw[zbF h hi];have hp:=zb0 h hi;by_cases e:parZ c i= -1
   ·exact .inl e.symm
   ·have h2:=zag.1 hi;exact .inr (zjd h n _ (zag.2 (by omega)) (by omega))
theorem zdt {c:ChD} (h:Right c): ∀(n:Nat) (i j k:Int),i<n->j∈upL c i->k∈upL c j->k∈upL c i
 | 0,i,j,k,hn,hj,hk=>by
   cases hh:inZ c i with
   |false=>rw[zbr hh]at hj;simp at hj
   |true=>have:=zag.1 hh;omega
 | n+1,i,j,k,hn,hj,hk=>by
   cases hh:inZ c i with
   |false=>rw[zbr hh]at hj;simp at hj
   | true=>
     rw[zbF h hh]at hj |-;have hp:=zb0 h hh;rcases hj with rfl|hj
     ·exact .inr hk
     ·exact .inr (zdt h n _ j k (by omega) hj hk)
/-! What is above a state, as bits -/
def zrK (c:ChD):Nat->Int->Nat
 |0,_=>0
 |f+1,i=>if inZ c i=true then(if 0<=parZ c i then zrK c f (parZ c i)||| 2^(parZ c i).toNat else 0) else 0
theorem zjH {c:ChD} (h:Right c): ∀(f:Nat) (i:Int) (k:Nat),(zrK c f i).testBit k=decide ((k:Int)∈upF c f i)
 |0,i,k=>by simp[zrK,upF]
 | f+1,i,k=>by
   unfold zrK upF;cases hh:inZ c i with
   |false=>simp
   | true=>
     simp only[if_true];have hp:=zb0 h hh;by_cases e:0<=parZ c i
     ·rw[if_pos e,Nat.testBit_or,zjH h f,Nat.testBit_two_pow];by_cases e2:(k:Int)=parZ c i
      ·have:(parZ c i).toNat=k:=by omega
       simp[e2,this]
      ·have: ¬(parZ c i).toNat=k:=by omega
       simp[e2,this]
     ·rw[if_neg e];have hm:parZ c i= -1:=by omega
      have hz:inZ c (-1)=false:=by
       cases hq:inZ c (-1)
       ·rfl
       ·have:=zag.1 hq;omega
      rw[hm,zeU hz];simp
def mask (c:ChD) (i:Int):Nat:=zrK c 40 i
theorem zjI {c:ChD} (h:Right c) (i:Int) (k:Nat):(mask c i).testBit k=decide ((k:Int)∈upL c i):=zjH h 40 i k
theorem zfP {c:ChD} (h:Right c) {i:Int} (hi:i<32):mask c i<2^32:=by
 apply Nat.lt_pow_two_of_testBit;intro k hk;rw[zjI h];simp only[decide_eq_false_iff_not];intro hm;have:=ze8 h 40 i k hm;omega
theorem zk3 {c:ChD} (h:Right c) {i:Int} (hi:inZ c i=true):mask c i=if 0<=parZ c i then mask c (parZ c i)||| 2^(parZ c i).toNat else 0:=by
 apply Nat.eq_of_testBit_eq;intro k;have hp:=zb0 h hi;rw[zjI h,zjf h hi];by_cases e:0<=parZ c i
 ·rw[if_pos e,Nat.testBit_or,zjI h,Nat.testBit_two_pow];by_cases e2:(k:Int)=parZ c i
  ·have:(parZ c i).toNat=k:=by omega
   simp[e2,this]
  ·have: ¬(parZ c i).toNat=k:=by omega
   simp[e2,this]
 ·rw[if_neg e];have hm:parZ c i= -1:=by omega
  have hz:inZ c (-1)=false:=by
   cases hq:inZ c (-1)
   ·rfl
   ·have:=zag.1 hq;omega
  rw[hm,zbr hz];simp
theorem zbN {α β:Type} {f g:α->List β} : ∀ {l:List α},(∀x∈l,f x=g x)->l.flatMap f=l.flatMap g
 |[],_=>rfl
 | x::l,h=>by
   simp only[List.flatMap_cons];rw[h x (by simp),zbN fun y hy=>h y (by simp[hy])]
/-! The walk -/
def zjb (c:ChD):Nat->Int->List Nat
 |0,_=>[]
 |f+1,i=>(kidsL c i false).flatMap fun k=>k::zjb c f k
def walkL (c:ChD) (i:Int):List Nat:=zjb c 40 i
theorem zcm {c:ChD} {i:Int} {k:Nat} :k∈kidsL c i false↔k<c.states.length/\parZ c k=i:=by
 unfold kidsL zaX;rw[List.mem_filter,List.mem_range];constructor
 ·rintro⟨h1,h2⟩;obtain⟨s,hs⟩:=gE h1;refine⟨h1,?_⟩;unfold zb6 at h2;rw[hs]at h2;rw[zck hs];simpa using h2
 ·rintro⟨h1,h2⟩;obtain⟨s,hs⟩:=gE h1;refine⟨h1,?_⟩;unfold zb6;rw[hs];rw[zck hs]at h2;simp[h2]
theorem zaI (c:ChD) (i:Int) (real:Bool):(kidsL c i real).Nodup:=List.Nodup.sublist List.filter_sublist List.nodup_range
theorem zan {c:ChD} {i:Int} {k:Nat} (h:k∈kidsL c i true):k∈kidsL c i false/\ ∃s,c.states[k]? =some s/\zaq s=false:=by
 unfold kidsL zaX at h |-;rw[List.mem_filter]at h |-;obtain⟨h1,h2⟩:=h;unfold zb6 at h2 |-;cases hs:c.states[k]? with
 |none=>rw[hs]at h2;cases h2
 | some s=>
   rw[hs]at h2;simp at h2 |-;exact⟨⟨by simpa using h1,h2.1⟩,h2.2⟩
theorem zaJ {c:ChD} (h:Right c) {i:Int} {k:Nat} (hk:k∈kidsL c i false):i<k/\k<c.states.length:=by
 obtain⟨h1,h2⟩:=zcm.1 hk;have:=zb0 h (zar.2 h1);omega
theorem zqx {c:ChD} (h:Right c): ∀(f g:Nat) (i:Int),(c.states.length:Int)<=i+f->(c.states.length:Int)<=i+g->zjb c f i=zjb c g i:=by
 have none: ∀(g:Nat) (i:Int),(c.states.length:Int)<=i->zjb c g i=[]:=fun g i hi=>by
  cases g with
  |zero=>rfl
  | succ g=>
    unfold zjb;have:kidsL c i false=[]:=List.eq_nil_iff_forall_not_mem.2 fun k hk=>by have:=zaJ h hk;omega
    rw[this];rfl
 intro f
 induction f with
 |zero=>intro g i h1 h2;rw[none g i (by omega)];rfl
 | succ f ih=>
   intro g i h1 h2;cases g with
   |zero=>rw[none (f+1) i (by omega)];rfl
   | succ g=>
     unfold zjb;apply zbN;intro k hk;have:=zaJ h hk;rw[ih g k (by omega) (by omega)]
theorem walk_eq {c:ChD} (h:Right c) {i:Int} (_hi: -1<=i):walkL c i=(kidsL c i false).flatMap fun k=>k::walkL c k:=by
 have hf:=h.few;show (kidsL c i false).flatMap (fun k=>k::zjb c 39 k)=_;apply zbN;intro k hk;have:=zaJ h hk;rw[show zjb c 39 k=walkL c k from zqx h 39 40 k (by omega) (by omega)]
theorem zeu {c:ChD} (h:Right c): ∀(n:Nat) (i:Int) (m:Nat), -1<=i->(c.states.length:Int)<=i+n->(m∈walkL c i↔m<c.states.length/\i∈upL c m)
 | 0,i,m,hi,hn=>by
   rw[walk_eq h hi];have:kidsL c i false=[]:=List.eq_nil_iff_forall_not_mem.2 fun k hk=>by have:=zaJ h hk;omega
   rw[this];simp only[List.flatMap_nil,List.not_mem_nil,false_iff,not_and];intro h1 h2;have:=ze8 h 40 m i h2;omega
 | n+1,i,m,hi,hn=>by
   rw[walk_eq h hi,List.mem_flatMap];constructor
   ·rintro⟨k,hk,hm⟩;have hg:=zaJ h hk;obtain⟨k1,k2⟩:=zcm.1 hk;rcases List.mem_cons.1 hm with rfl|hm
    ·exact⟨k1,(zbF h (zar.2 k1)).2 (.inl k2.symm)⟩
    ·obtain⟨m1,m2⟩:=(zeu h n k m (by omega) (by omega)).1 hm;refine⟨m1,zdt h 40 m k i (by have:=h.few;omega) m2 ((zbF h (zar.2 k1)).2 (.inl k2.symm))⟩
   ·rintro⟨h1,h2⟩
    have key: ∀(d:Nat) (m:Nat),m<d->m<c.states.length->i∈upL c m-> ∃k∈kidsL c i false,m=k\/(k:Int)∈upL c m:=fun d=>by
     induction d with
     |zero=>intro m hd;omega
     | succ d ih=>
       intro m hd hm hu;have hin:=zar.2 hm;rcases (zbF h hin).1 hu with e|e
       ·exact⟨m,zcm.2 ⟨hm,e.symm⟩, .inl rfl⟩
       ·have hp:=zb0 h hin
        have h0:0<=parZ c m:=by
         rcases Int.lt_or_le (parZ c m) 0 with q|q
         ·have hz:inZ c (parZ c m)=false:=by
           cases hq:inZ c (parZ c m)
           ·rfl
           ·have:=zag.1 hq;omega
          rw[zbr hz]at e;simp at e
         ·exact q
        obtain⟨p,hpe⟩: ∃p:Nat,parZ c m=p:=⟨(parZ c m).toNat,by omega⟩;rw[hpe]at e hp;obtain⟨k,hk,hk2⟩:=ih p (by omega) (by omega) e;refine⟨k,hk, .inr ((zbF h hin).2 ?_)⟩;rw[hpe];rcases hk2 with rfl|hk2
        ·exact .inl rfl
        ·exact .inr hk2
    obtain⟨k,hk,hk2⟩:=key (m+1) m (by omega) h1 h2;have hg:=zaJ h hk;refine⟨k,hk,List.mem_cons.2 ?_⟩;rcases hk2 with e|e
    ·exact .inl e
    ·exact .inr ((zeu h n k m (by omega) (by omega)).2 ⟨h1,e⟩)
theorem zes {c:ChD} (h:Right c) (m:Nat):m∈walkL c (-1)↔m<c.states.length:=by
 rw[zeu h 40 (-1) m (by omega) (by have:=h.few;omega)];exact⟨fun h=>h.1,fun hm=>⟨hm,zjd h (m+1) m (zar.2 hm) (by omega)⟩⟩
theorem zmU {c:ChD} (h:Right c) {i:Int} {k1 k2:Nat} (h1:k1∈kidsL c i false) (h2:k2∈kidsL c i false): ∀(d m:Nat),m<d->m<c.states.length->(m=k1\/(k1:Int)∈upL c m)->(m=k2\/(k2:Int)∈upL c m)->k1=k2:=by
 obtain⟨a1,b1⟩:=zcm.1 h1;obtain⟨a2,b2⟩:=zcm.1 h2
 have no: ∀ {x y:Nat},x<c.states.length->parZ c x=i->y<c.states.length->parZ c y=i-> ¬(y:Int)∈upL c x:=fun {x y} hx px hy py hm=>by
  have q1:=zb0 h (zar.2 hx);have q2:=zb0 h (zar.2 hy);rcases (zbF h (zar.2 hx)).1 hm with e|e
  ·omega
  ·have:=ze8 h 40 _ _ e;omega
 intro d
 induction d with
 |zero=>intro m hd;omega
 | succ d ih=>
   intro m hd hm e1 e2;rcases e1 with rfl|e1
   ·rcases e2 with rfl|e2
    ·rfl
    ·exact absurd e2 (no a1 b1 a2 b2)
   ·rcases e2 with rfl|e2
    ·exact absurd e1 (no a2 b2 a1 b1)
    ·have hin:=zar.2 hm;have hp:=zb0 h hin
     have h0:0<=parZ c m:=by
      rcases Int.lt_or_le (parZ c m) 0 with q|q
      ·have hz:inZ c (parZ c m)=false:=by
        cases hq:inZ c (parZ c m)
        ·rfl
        ·have:=zag.1 hq;omega
       rw[zbF h hin,zbr hz]at e1;rcases e1 with e|e
       ·omega
       ·simp at e
      ·exact q
     obtain⟨p,hpe⟩: ∃p:Nat,parZ c m=p:=⟨(parZ c m).toNat,by omega⟩;rw[zbF h hin,hpe]at e1 e2;rw[hpe]at hp;exact ih p (by omega) (by omega) (by rcases e1 with e|e;exact .inl (by omega);exact .inr e) (by rcases e2 with e|e;exact .inl (by omega);exact .inr e)
theorem zet {c:ChD} (h:Right c): ∀(n:Nat) (i:Int), -1<=i->(c.states.length:Int)<=i+n->(walkL c i).Nodup
 | 0,i,hi,hn=>by
   rw[walk_eq h hi];have:kidsL c i false=[]:=List.eq_nil_iff_forall_not_mem.2 fun k hk=>by have:=zaJ h hk;omega
   rw[this];simp
 | n+1,i,hi,hn=>by
   rw[walk_eq h hi]
   have mem: ∀k∈kidsL c i false,∀m,m∈k::walkL c k->m<c.states.length/\(m=k\/(k:Int)∈upL c m):=fun k hk m hm=>by
    have hg:=zaJ h hk;rcases List.mem_cons.1 hm with rfl|hm
    ·exact⟨hg.2, .inl rfl⟩
    ·obtain⟨q1,q2⟩:=(zeu h n k m (by omega) (by omega)).1 hm;exact⟨q1, .inr q2⟩
   have hnd:=zaI c i false;rw[List.nodup_iff_pairwise_ne]at hnd;rw[List.nodup_iff_pairwise_ne,List.pairwise_flatMap];refine⟨fun k hk=> ?_,?_⟩
   ·rw[<-List.nodup_iff_pairwise_ne,List.nodup_cons];have hg:=zaJ h hk;refine⟨fun hm=> ?_,zet h n k (by omega) (by omega)⟩;have:=(zeu h n k k (by omega) (by omega)).1 hm;have:=ze8 h 40 _ _ this.2;omega
   ·refine List.Pairwise.imp_of_mem (R:=fun a b=>a≠b) ?_ hnd;intro k1 k2 hk1 hk2 hne m1 hm1 m2 hm2 e;subst e;obtain⟨q1,q2⟩:=mem k1 hk1 m1 hm1;obtain⟨_,q3⟩:=mem k2 hk2 m1 hm2;exact hne (zmU h hk1 hk2 (m1+1) m1 (by omega) q1 q2 q3)
/-! Sorting by the walk -/
def sortL (c:ChD) (l:List Int):List Nat:=if l.all (inZ c)=true then(walkL c (-1)).filter fun k=>l.contains (k:Int) else []
theorem znL {c:ChD} (h:Right c) {l:List Int} (hl:l.all (inZ c)=true) {k:Nat} :k∈sortL c l↔(k:Int)∈l:=by
 unfold sortL;rw[if_pos hl,List.mem_filter,zes h];simp only[List.contains_iff_mem];refine⟨fun h=>h.2,fun hk=>⟨zar.1 (List.all_eq_true.1 hl _ hk),hk⟩⟩
theorem ziv {c:ChD} (h:Right c) (l:List Int):(sortL c l).Nodup:=by
 unfold sortL;split
 ·exact List.Nodup.sublist List.filter_sublist (zet h 40 (-1) (by omega) (by have:=h.few;omega))
 ·simp
end
section
open Go.RowKit
structure Full (c:ChD):Prop extends Right c where
 st: ∀(k:Nat) (s:StD),c.states[k]? =some s->zbm c k s=true
 tr: ∀(k:Nat) (t:TrD),c.trans[k]? =some t->zch c t=true
 ini:topB c=true
 ftr:c.trans.length<=64
theorem full_of {c:ChD} (h:(chk c).1=0):Full c:=by
 refine⟨znP h,?_,?_,?_,?_⟩<;>
 ·unfold chk at h;split at h
  ·simp at h
  rename_i h1;split at h
  ·simp at h
  split at h
  ·simp at h
  split at h
  ·simp at h
  rename_i h3;split at h
  ·simp at h
  rename_i h4;split at h
  ·simp at h
  rename_i h5
  first
   |(intro k s hs
     have:=zbf h3 k (List.getElem?_eq_some_iff.1 hs).1;unfold zgx at this;rw[hs]at this
     exact this)
   |(intro k t ht
     have:=zbf h5 k (List.getElem?_eq_some_iff.1 ht).1;unfold zkd at this;rw[ht]at this
     exact this)
   |(simpa using h4)
   |omega
theorem Full.shape {c:ChD} (h:Full c) {k:Nat} {s:StD} (hs:c.states[k]? =some s):zbZ c k s=true:=by
 have:=h.st k s hs;simp only[zbm,Bool.and_eq_true]at this;exact this.1.1.2
theorem zjW {l:List Nat} {n:Int} :inL l n=true↔ ∃k∈l,(k:Int)=n:=by
 unfold inL;rw[List.any_eq_true];simp
theorem Full.cases {c:ChD} (h:Full c) {k:Nat} {s:StD} (hs:c.states[k]? =some s):
 (s.kind=1/\((kidsL c k true=[]/\s.initial= -1)\/ ∃j∈kidsL c k true,s.initial=(j:Nat)))\/(s.kind=2/\s.initial= -1/\kidsL c k true≠[]/\ ∀j∈kidsL c k true,zav c j=true)\/
  (s.kind=3/\kidsL c k false=[]/\s.initial= -1)\/((s.kind=4\/s.kind=5)/\kidsL c k false=[]/\zbJ c s=true/\inL (kidsL c s.parent true) s.initial=true):=by
 have hb:=h.shape hs;unfold zbZ at hb;split at hb
 ·rename_i e;refine .inl ⟨e,?_⟩;split at hb
  ·rename_i e2;exact .inl ⟨e2,by simpa using hb⟩
  ·obtain⟨j,hj,e3⟩:=zjW.1 hb;exact .inr ⟨j,hj,e3.symm⟩
 split at hb
 ·rename_i e;simp only[Bool.and_eq_true,decide_eq_true_eq,beq_iff_eq,List.all_eq_true]at hb;exact .inr (.inl ⟨e,hb.2,fun e2=>by rw[e2]at hb;simp at hb,hb.1.1⟩)
 split at hb
 ·rename_i e;simp only[Bool.and_eq_true,beq_iff_eq]at hb;exact .inr (.inr (.inl ⟨e,by simpa using hb.1.1.1,hb.1.2⟩))
 split at hb
 ·rename_i e;simp only[Bool.and_eq_true,beq_iff_eq]at hb;exact .inr (.inr (.inr ⟨e,by simpa using hb.1.1.1.1,hb.1.1.1.2,hb.1.1.2⟩))
 ·cases hb
theorem zjE {c:ChD} {i:Int} (h:kidsL c i false=[]):kidsL c i true=[]:=by
 apply List.eq_nil_iff_forall_not_mem.2;intro k hk;have:=(zan hk).1;rw[h]at this;simp at this
abbrev zL (l:List Nat):List Int:=l.map fun k:Nat=>(k:Int)
/-! What begins with a state -/
def bgF (c:ChD):Nat->Nat->List Nat
 |0,_=>[]
 | f+1,i=>i::match c.states[i]? with
   |some s=>if s.kind=1/\0<=s.initial then bgF c f s.initial.toNat else if s.kind=2 then(kidsL c i true).flatMap (bgF c f) else []
   |none=>[]
def bgL (c:ChD) (i:Nat):List Nat:=bgF c 40 i
theorem zmZ {c:ChD} (h:Full c) {i:Nat} {s:StD} (hs:c.states[i]? =some s) (h1:s.kind=1) (h0:0<=s.initial): ∃j∈kidsL c i true,s.initial=(j:Nat):=by
 rcases h.cases hs with⟨_,⟨_,e⟩|e⟩|⟨e,_⟩|⟨e,_⟩|⟨e,_⟩
 ·omega
 ·exact e
 ·omega
 ·omega
 ·omega
theorem znr {c:ChD} (h:Full c): ∀(f g:Nat) (i:Nat),i<c.states.length->c.states.length<=i+f->c.states.length<=i+g->bgF c f i=bgF c g i
 |0,g,i,h0,h1,h2=>by omega
 |f+1,0,i,h0,h1,h2=>by omega
 | f+1,g+1,i,h0,h1,h2=>by
   unfold bgF
   congr 1
   cases hs:c.states[i]? with
   |none=>rfl
   | some s=>
     simp only;split
     ·rename_i e;obtain⟨j,hj,e2⟩:=zmZ h hs e.1 e.2;have:=zaJ h.toRight (zan hj).1;rw[e2,Int.toNat_natCast];exact znr h f g j (by omega) (by omega) (by omega)
     ·split
      ·apply zbN;intro k hk;have:=zaJ h.toRight (zan hk).1;exact znr h f g k (by omega) (by omega) (by omega)
      ·rfl
theorem zuW (c:ChD) (f i:Nat):bgF c (f+1) i=i::match c.states[i]? with
 |some s=>if s.kind=1/\0<=s.initial then bgF c f s.initial.toNat else if s.kind=2 then(kidsL c i true).flatMap (bgF c f) else []
 |none=>[]:=rfl
theorem zwW {c:ChD} (h:Full c) {i:Nat} {s:StD} (hs:c.states[i]? =some s):bgL c i=i::if s.kind=1/\0<=s.initial then bgL c s.initial.toNat else if s.kind=2 then(kidsL c i true).flatMap (bgL c) else []:=by
 have hi:=(List.getElem?_eq_some_iff.1 hs).1;have hf:=h.few;have e0:=zuW c 39 i;rw[hs]at e0;simp only at e0
 have e1: ∀j,j∈kidsL c i true->bgF c 39 j=bgL c j:=fun j hj=>by
  have:=zaJ h.toRight (zan hj).1;exact znr h 39 40 j (by omega) (by omega) (by omega)
 refine Eq.trans e0 (congrArg (List.cons i) ?_);by_cases q:s.kind=1/\0<=s.initial
 ·rw[if_pos q,if_pos q];obtain⟨j,hj,e2⟩:=zmZ h hs q.1 q.2;rw[e2,Int.toNat_natCast];exact e1 j hj
 ·rw[if_neg q,if_neg q];by_cases q2:s.kind=2
  ·rw[if_pos q2,if_pos q2];exact zbN e1
  ·rw[if_neg q2,if_neg q2]
theorem zgl {α β:Type} {f:α->List β} : ∀ {l:List α},(∀x∈l,f x=[])->l.flatMap f=[]
 |[],_=>rfl
 | x::l,h=>by
   simp only[List.flatMap_cons];rw[h x (by simp),zgl fun y hy=>h y (by simp[hy])];rfl
theorem flatMap_one {α β:Type} {f:α->List β} {a:α} : ∀ {l:List α},l.Nodup->a∈l->(∀x∈l,x≠a->f x=[])->l.flatMap f=f a
 |[],_,ha,_=>by simp at ha
 | x::l,hn,ha,h=>by
   obtain⟨h1,h2⟩:=List.nodup_cons.1 hn;simp only[List.flatMap_cons];by_cases e:x=a
   ·subst e;rw[zgl fun y hy=>h y (by simp[hy]) fun e=>h1 (e ▸ hy),List.append_nil]
   ·rw[h x (by simp) e,List.nil_append];exact flatMap_one h2 ((List.mem_cons.1 ha).resolve_left (Ne.symm e)) fun y hy=>h y (by simp[hy])
theorem zi3 {c:ChD} (h:Full c) {i:Nat} {s:StD} (hs:c.states[i]? =some s):bgL c i=i::(kidsL c i true).flatMap fun k=>if s.kind=2\/s.initial=(k:Nat) then bgL c k else []:=by
 rw[zwW h hs]
 congr 1
 rcases h.cases hs with⟨e,⟨e1,e2⟩|⟨j,hj,e2⟩⟩|⟨e,e1,_⟩|⟨e,e1,_⟩|⟨e,e1,_⟩
 ·rw[e1,if_neg (by omega),if_neg (by omega)];rfl
 ·rw[if_pos ⟨e,by omega⟩,e2,Int.toNat_natCast];rw[flatMap_one (zaI c i true) hj fun x _ hne=>by rw[if_neg];omega];rw[if_pos (.inr rfl)]
 ·rw[if_neg (by omega),if_pos e];apply zbN;intro k _;rw[if_pos (.inl e)]
 ·rw[if_neg (by omega),if_neg (by omega),zjE e1];rfl
 ·rw[if_neg (by omega),if_neg (by omega),zjE e1];rfl
theorem zuV {c:ChD} (h:Full c): ∀(n i m:Nat),i<c.states.length->c.states.length<=i+n->m∈bgL c i->i<=m/\m<c.states.length
 |0,i,m,hi,hn,_=>by omega
 | n+1,i,m,hi,hn,hm=>by
   obtain⟨s,hs⟩:=gE hi;rw[zi3 h hs,List.mem_cons,List.mem_flatMap]at hm;rcases hm with rfl|⟨k,hk,hm⟩
   ·exact⟨Nat.le_refl _,hi⟩
   ·have hg:=zaJ h.toRight (zan hk).1;split at hm
    ·have:=zuV h n k m (by omega) (by omega) hm;omega
    ·simp at hm
theorem znq {c:ChD} (h:Full c) {i:Nat} (hi:i<c.states.length):i∈bgL c i:=by
 obtain⟨s,hs⟩:=gE hi;rw[zi3 h hs];exact List.mem_cons_self ..
theorem bg_from {c:ChD} (h:Full c): ∀(n i m:Nat),i<c.states.length->c.states.length<=i+n->m∈bgL c i->m=i\/ ∃p s,p∈bgL c i/\c.states[p]? =some s/\m∈kidsL c p true/\(s.kind=2\/s.initial=(m:Nat))
 |0,i,m,hi,hn,_=>by omega
 | n+1,i,m,hi,hn,hm=>by
   obtain⟨s,hs⟩:=gE hi;have hb:=zi3 h hs;rw[hb,List.mem_cons,List.mem_flatMap]at hm;rcases hm with rfl|⟨k,hk,hm⟩
   ·exact .inl rfl
   ·have hg:=zaJ h.toRight (zan hk).1;split at hm
    ·rename_i e
     have sub: ∀x,x∈bgL c k->x∈bgL c i:=fun x hx=>by
      rw[hb,List.mem_cons,List.mem_flatMap];exact .inr ⟨k,hk,by rw[if_pos e];exact hx⟩
     rcases bg_from h n k m (by omega) (by omega) hm with rfl|⟨p,q,h1,h2⟩
     ·exact .inr ⟨i,s,znq h hi,hs,hk,e⟩
     ·exact .inr ⟨p,q,sub p h1,h2⟩
    ·simp at hm
theorem zte {c:ChD} (h:Full c): ∀(n i m:Nat) (s:StD) (k:Nat),i<c.states.length->c.states.length<=i+n->m∈bgL c i->c.states[m]? =some s->k∈kidsL c m true->(s.kind=2\/s.initial=(k:Nat))->k∈bgL c i
 |0,i,m,s,k,hi,hn,_,_,_,_=>by omega
 | n+1,i,m,s,k,hi,hn,hm,hms,hk,e=>by
   obtain⟨q,hs⟩:=gE hi;have hb:=zi3 h hs;have hm0:=hm;rw[hb,List.mem_cons,List.mem_flatMap]at hm |-;rcases hm with rfl|⟨j,hj,hm⟩
   ·rw[hs]at hms;cases hms;have hg:=zaJ h.toRight (zan hk).1;exact .inr ⟨k,hk,by rw[if_pos e];exact znq h hg.2⟩
   ·have hg:=zaJ h.toRight (zan hj).1;split at hm
    ·rename_i e2;exact .inr ⟨j,hj,by rw[if_pos e2];exact zte h n j m s k (by omega) (by omega) hm hms hk e⟩
    ·simp at hm
theorem zqd {c:ChD} (h:Full c) {i m:Nat} {s:StD} (hi:i<c.states.length) (hm:m∈bgL c i) (hs:c.states[m]? =some s) {k:Nat} (hk:k∈kidsL c m true):k∈bgL c i↔s.kind=2\/s.initial=(k:Nat):=by
 have hf:=h.few;refine⟨fun hb=> ?_,zte h 40 i m s k hi (by omega) hm hs hk⟩;have hg:=zaJ h.toRight (zan hk).1;have hmi:=zuV h 40 i m hi (by omega) hm;rcases bg_from h 40 i k hi (by omega) hb with rfl|⟨p,q,h1,h2,h3,h4⟩
 ·omega
 ·have e1:=(zcm.1 (zan h3).1).2;have e2:=(zcm.1 (zan hk).1).2;have:p=m:=by omega
  subst this;rw[hs]at h2;cases h2;exact h4
theorem zl0 {c:ChD} (h:Full c) {i m:Nat} (hi:i<c.states.length) (hm:m∈bgL c i) (hne:m≠i): ∃p:Nat,parZ c m=p/\p∈bgL c i:=by
 have hf:=h.few;rcases bg_from h 40 i m hi (by omega) hm with e|⟨p,q,h1,h2,h3,h4⟩
 ·exact absurd e hne
 ·exact⟨p,(zcm.1 (zan h3).1).2,h1⟩
theorem zwX {c:ChD} (h:Full c) {i:Nat} (hi:i<c.states.length):(zL (bgL c i)).all (inZ c)=true:=by
 have hf:=h.few;rw[List.all_eq_true];intro x hx;obtain⟨k,hk,rfl⟩:=List.mem_map.1 hx;exact zar.2 (zuV h 40 i k hi (by omega) hk).2
def sbL (c:ChD) (i:Nat):List Nat:=sortL c (zL (bgL c i))
theorem zvd {c:ChD} (h:Full c) {i:Nat} (hi:i<c.states.length) {k:Nat} :k∈sbL c i↔k∈bgL c i:=by
 unfold sbL;rw[znL h.toRight (zwX h hi),List.mem_map];constructor
 ·rintro⟨j,hj,e⟩;have:j=k:=by omega
  exact this ▸ hj
 ·exact fun hk=>⟨k,hk,rfl⟩
end
section
open Go.RowKit
def manyI (act:List Int) (kids:List Nat):Nat:=(kids.filter fun k:Nat=>act.contains (k:Int)).length
theorem zmR (act:List Int) (kids:List Nat):manyI act kids<=kids.length:=List.length_filter_le ..
def fitB (c:ChD) (act:List Int) (i:Nat) (s:StD):Bool:=
 !zaq s&&(decide (s.parent<0)||act.contains s.parent)&&
  (if s.kind=1/\kidsL c i true≠[] then manyI act (kidsL c i true)==1 else if s.kind=2 then manyI act (kidsL c i true)==(kidsL c i true).length else true)
def fitI (c:ChD) (act:List Int) (i:Int):Bool:=match at_ c i with
 |some s=>fitB c act i.toNat s
 |none=>false
def lgAt (c:ChD) (act:List Int) (n:Nat):Bool:=match act[n]? with
 |some i=>(n==0||decide (act.getD (n-1) 0<i))&&fitI c act i
 |none=>true
def zfo (c:ChD) (act:List Int):Int×Int:=match zaA (lgAt c act) act.length with
 |some n=>(1,max (act.getD n 0) (-1))
 |none=>if manyI act (kidsL c (-1) true)=1 then(0, -1) else(1, -1)
def lgB (c:ChD) (act:List Int):Bool:=(zfo c act).1==0
theorem zob {c:ChD} {act:List Int} :lgB c act=true↔(∀n,n<act.length->lgAt c act n=true)/\manyI act (kidsL c (-1) true)=1:=by
 unfold lgB zfo;cases h:zaA (lgAt c act) act.length with
 | some n=>
   refine⟨fun e=>by simp at e,fun e=> ?_⟩;rw[zaz e.1]at h;cases h
 | none=>
   simp only;split
   ·rename_i e;exact⟨fun _=>⟨fun n hn=>zbf h n hn,e⟩,fun _=>rfl⟩
   ·rename_i e;exact⟨fun e2=>by simp at e2,fun e2=>absurd e2.2 e⟩
/-! What is active at first -/
def iniN (c:ChD):Nat:=c.initial.toNat
theorem Full.topS {c:ChD} (h:Full c): ∃s,c.states[iniN c]? =some s/\c.initial=(iniN c:Nat)/\s.parent= -1/\(s.kind=1\/s.kind=2):=by
 have:=h.ini;unfold topB at this;cases ha:at_ c c.initial with
 |none=>rw[ha]at this;simp at this
 | some s=>
   rw[ha]at this;unfold at_ at ha;split at ha
   ·rename_i h0;refine⟨s,ha,by unfold iniN;omega,?_⟩;simp only[zcW,Bool.and_eq_true,beq_iff_eq,Bool.or_eq_true]at this;exact⟨this.1,this.2⟩
   ·cases ha
def ziQ (c:ChD):List Nat:=(List.range c.states.length).filter fun k=>decide (k∈sbL c (iniN c))
theorem zej {c:ChD} (h:Full c) {k:Nat} :k∈ziQ c↔k∈bgL c (iniN c):=by
 obtain⟨s,hs,_⟩:=h.topS;have hi:=(List.getElem?_eq_some_iff.1 hs).1;unfold ziQ;rw[List.mem_filter,List.mem_range,decide_eq_true_eq,zvd h hi];exact⟨fun e=>e.2,fun e=>⟨(zuV h 40 _ k hi (by have:=h.few;omega) e).2,e⟩⟩
theorem zkp {l:List Nat} {k:Nat} :(zL l).contains (k:Int)=true↔k∈l:=by
 rw[List.contains_iff_mem];unfold zL;rw[List.mem_map];constructor
 ·rintro⟨j,h1,h2⟩;have:j=k:=by omega
  exact this ▸ h1
 ·exact fun h=>⟨k,h,rfl⟩
theorem filter_one {α:Type} [DecidableEq α] {p:α->Bool} {a:α} : ∀ {l:List α},l.Nodup->a∈l->(∀x∈l,p x=true↔x=a)->l.filter p=[a]
 |[],_,h,_=>by simp at h
 | x::l,hn,ha,hp=>by
   obtain⟨h1,h2⟩:=List.nodup_cons.1 hn;by_cases e:x=a
   ·subst e;rw[List.filter_cons,if_pos ((hp x (by simp)).2 rfl),List.filter_eq_nil_iff.2 fun y (hy:y∈l) hh=>h1 ((hp y (List.mem_cons_of_mem _ hy)).1 hh ▸ hy)]
   ·rw[List.filter_cons,if_neg fun hh=>e ((hp x (by simp)).1 hh)];exact filter_one h2 ((List.mem_cons.1 ha).resolve_left (Ne.symm e)) fun y hy=>hp y (List.mem_cons_of_mem _ hy)
theorem zq8 {p:Nat->Bool} {n:Nat} :((List.range n).filter p).Pairwise (· < ·):=List.Pairwise.sublist List.filter_sublist List.pairwise_lt_range
theorem zwD {c:ChD} {l:List Nat} (hr:l.Pairwise (· < ·)) (hf: ∀k∈l,fitI c (zL l) k=true) (ht:manyI (zL l) (kidsL c (-1) true)=1):lgB c (zL l)=true:=by
 rw[zob];refine⟨fun n hn=> ?_,ht⟩;have hn':n<l.length:=by simpa[zL]using hn
 have e:(zL l)[n]? =some ((l[n]:Nat):Int):=by unfold zL;rw[List.getElem?_map,List.getElem?_eq_getElem hn'];rfl
 unfold lgAt;rw[e];simp only[Bool.and_eq_true,Bool.or_eq_true,beq_iff_eq,decide_eq_true_eq];refine⟨?_,hf _ (List.getElem_mem hn')⟩;by_cases h0:n=0
 ·exact .inl h0
 ·right;have:=List.pairwise_iff_getElem.1 hr (n-1) n (by omega) hn' (by omega)
  have e2:(zL l).getD (n-1) 0=((l[n-1]'(by omega):Nat):Int):=by
   unfold zL;rw[List.getD_eq_getElem?_getD,List.getElem?_map,List.getElem?_eq_getElem (by omega)];rfl
  rw[e2];omega
theorem zuf {l kids:List Nat} (h: ∀k∈kids,k∈l):manyI (zL l) kids=kids.length:=by
 unfold manyI;rw[List.filter_eq_self.2 fun k hk=>zkp.2 (h k hk)]
theorem zn7 {l kids:List Nat} {j:Nat} (hn:kids.Nodup) (hj:j∈kids) (h: ∀k∈kids,k∈l↔k=j):manyI (zL l) kids=1:=by
 unfold manyI;rw[filter_one hn hj fun k hk=>zkp.trans (h k hk)];rfl
theorem zwi {c:ChD} (h:Full c) {i m:Nat} {t:StD} (ht:c.states[i]? =some t) (hm0:zaq t=false) (hm:m∈bgL c i): ∃s,c.states[m]? =some s/\zaq s=false:=by
 have hi:=(List.getElem?_eq_some_iff.1 ht).1;rcases bg_from h 40 i m hi (by have:=h.few;omega) hm with rfl|⟨p,q,_,_,h3,_⟩
 ·exact⟨t,ht,hm0⟩
 ·obtain⟨_,s,h1,h2⟩:=zan h3;exact⟨s,h1,h2⟩
theorem zm5 {c:ChD} (h:Full c):lgB c (zL (ziQ c))=true:=by
 obtain⟨t,ht,hini,htp,htk⟩:=h.topS;have hi:=(List.getElem?_eq_some_iff.1 ht).1
 have hm0:zaq t=false:=by
  unfold zaq;rcases htk with e|e<;>rw[e]<;>rfl
 refine zwD zq8 (fun k hk=> ?_) ?_
 ·have hb:=(zej h).1 hk;obtain⟨s,hs,hm⟩:=zwi h ht hm0 hb;unfold fitI;rw[zaM,hs];simp only[Int.toNat_natCast];unfold fitB;rw[hm,Bool.and_eq_true,Bool.and_eq_true];refine⟨⟨rfl,?_⟩,?_⟩
  ·rw[Bool.or_eq_true,decide_eq_true_eq];by_cases e:k=iniN c
   ·subst e;rw[ht]at hs;cases hs;left;omega
   ·obtain⟨p,h1,h2⟩:=zl0 h hi hb e;rw[zck hs]at h1;right;rw[h1];exact zkp.2 ((zej h).2 h2)
  ·have hk2: ∀j∈kidsL c k true,(j∈ziQ c↔s.kind=2\/s.initial=(j:Nat)):=fun j hj=>(zej h).trans (zqd h hi hb hs hj);split
   ·rename_i e;rw[beq_iff_eq];rcases h.cases hs with⟨_,⟨e1,_⟩|⟨j,hj,e1⟩⟩|⟨e1,_⟩|⟨e1,_⟩|⟨e1,_⟩
    ·exact absurd e1 e.2
    ·exact zn7 (zaI ..) hj fun x hx=>(hk2 x hx).trans ⟨fun q=>q.elim (fun q=>by omega) fun q=>by omega,fun q=> .inr (by rw[q];exact e1)⟩
    ·omega
    ·omega
    ·omega
   ·split
    ·rename_i e;rw[beq_iff_eq];exact zuf fun j hj=>(hk2 j hj).2 (.inl e)
    ·rfl
 ·refine zn7 (j:=iniN c) (zaI ..) (zrZ ht htp hm0) fun x hx=> ?_;rw[zej h];constructor
  ·intro hb;by_cases e:x=iniN c
   ·exact e
   ·obtain⟨p,h1,_⟩:=zl0 h hi hb e;have:=(zcm.1 (zan hx).1).2;omega
  ·rintro rfl;exact znq h hi
/-! What begins is few -/
theorem zwh {c:ChD} (h:Full c): ∀(n i m:Nat),i<c.states.length->c.states.length<=i+n->m∈bgL c i->m<c.states.length/\(m=i\/(i:Int)∈upL c m)
 |0,i,m,hi,hn,_=>by omega
 | n+1,i,m,hi,hn,hm=>by
   obtain⟨s,hs⟩:=gE hi;rw[zi3 h hs,List.mem_cons,List.mem_flatMap]at hm;rcases hm with rfl|⟨k,hk,hm⟩
   ·exact⟨hi, .inl rfl⟩
   ·have hg:=zaJ h.toRight (zan hk).1;have hkp:=(zcm.1 (zan hk).1).2;have hup:(i:Int)∈upL c k:=(zbF h.toRight (zar.2 hg.2)).2 (.inl hkp.symm);split at hm
    ·obtain⟨h1,h2⟩:=zwh h n k m (by omega) (by omega) hm;refine⟨h1, .inr ?_⟩;rcases h2 with rfl|h2
     ·exact hup
     ·exact zdt h.toRight (m+1) m k i (by omega) h2 hup
    ·simp at hm
theorem zoQ {c:ChD} (h:Full c): ∀(n i:Nat),i<c.states.length->c.states.length<=i+n->(bgL c i).Nodup
 |0,i,hi,hn=>by omega
 | n+1,i,hi,hn=>by
   obtain⟨s,hs⟩:=gE hi;rw[zi3 h hs,List.nodup_cons]
   have mem: ∀k∈kidsL c i true,∀m,m∈(if s.kind=2\/s.initial=(k:Nat) then bgL c k else [])->m<c.states.length/\(m=k\/(k:Int)∈upL c m):=fun k hk m hm=>by
    have hg:=zaJ h.toRight (zan hk).1;split at hm
    ·exact zwh h n k m (by omega) (by omega) hm
    ·simp at hm
   refine⟨fun hm=> ?_,?_⟩
   ·obtain⟨k,hk,hm⟩:=List.mem_flatMap.1 hm;have hg:=zaJ h.toRight (zan hk).1;obtain⟨q1,q2⟩:=mem k hk i hm;rcases q2 with e|e
    ·omega
    ·have:=ze8 h.toRight 40 _ _ e;omega
   ·have hnd:=zaI c i true;rw[List.nodup_iff_pairwise_ne]at hnd;rw[List.nodup_iff_pairwise_ne,List.pairwise_flatMap];refine⟨fun k hk=> ?_,?_⟩
    ·have hg:=zaJ h.toRight (zan hk).1;rw[<-List.nodup_iff_pairwise_ne];split
     ·exact zoQ h n k (by omega) (by omega)
     ·exact .nil
    ·refine List.Pairwise.imp_of_mem (R:=fun a b=>a≠b) ?_ hnd;intro k1 k2 hk1 hk2 hne m1 hm1 m2 hm2 e;subst e;obtain⟨q1,q2⟩:=mem k1 hk1 m1 hm1;obtain⟨_,q3⟩:=mem k2 hk2 m1 hm2;exact hne (zmU h.toRight (zan hk1).1 (zan hk2).1 (m1+1) m1 (by omega) q1 q2 q3)
theorem zvw {c:ChD} (h:Full c) {i:Nat} (hi:i<c.states.length):(bgL c i).length<=32:=by
 have hf:=h.few;have:=(zoQ h 40 i hi (by omega)).length_le_of_subset (l₂:=List.range c.states.length) fun m hm=>List.mem_range.2 (zwh h 40 i m hi (by omega) hm).1;simp at this;omega
theorem zq2 {c:ChD} (h:Full c) (i:Nat):(sbL c i).length<=32:=by
 have hf:=h.few
 have:=(ziv h.toRight (zL (bgL c i))).length_le_of_subset (l₂:=List.range c.states.length) fun m hm=>by
  unfold sortL at hm;split at hm
  ·exact List.mem_range.2 ((zes h.toRight m).1 (List.mem_filter.1 hm).1)
  ·simp at hm
 unfold sbL;simp at this;omega
end
section
open Go.RowKit
/-! The n-th ones -/
end
section
open Go.RowKit
def zq9 (c:ChD) (l:List Nat):List Nat:=(List.range c.states.length).filter fun k=>inL l (k:Int)
theorem zm2 {l:List Nat} {k:Nat} :inL l (k:Int)=true↔k∈l:=by
 rw[zjW];constructor
 ·rintro⟨j,h1,h2⟩;have:j=k:=by omega
  exact this ▸ h1
 ·exact fun h=>⟨k,h,rfl⟩
/-! One more is none -/
end
section
open Go.RowKit
attribute [go_sem] seenSt seesR zd6 Row.see AV.see AV.see.seeL Option.getD_none Option.getD_some List.any_cons List.any_nil
def L6:List (Nat×Nat):=[(1000,1000),(1001,1001),(1002,1002),(1003,1003),(1004,1004),(1005,1005)]
attribute [go_sem] L6
theorem es2 {e:Nat->Bool} {a0 a1:Nat} (h: ∀k∈[a0,a1],e k=false):e a0=false/\e a1=false:=by simpa using h
theorem es3 {e:Nat->Bool} {a0 a1 a2:Nat} (h: ∀k∈[a0,a1,a2],e k=false):e a0=false/\e a1=false/\e a2=false:=by simpa using h
theorem es6 {e:Nat->Bool} {a0 a1 a2 a3 a4 a5:Nat} (h: ∀k∈[a0,a1,a2,a3,a4,a5],e k=false):e a0=false/\e a1=false/\e a2=false/\e a3=false/\e a4=false/\e a5=false:=by simpa using h
theorem es7 {e:Nat->Bool} {a0 a1 a2 a3 a4 a5 a6:Nat} (h: ∀k∈[a0,a1,a2,a3,a4,a5,a6],e k=false):e a0=false/\e a1=false/\e a2=false/\e a3=false/\e a4=false/\e a5=false/\e a6=false:=by simpa using h
section
variable {P:Program} {env:Env} {nt:Nat} {Q:Exit->St->Prop} {s:St}
theorem iL0 {o:Oper} {f:FuncId} {args:List AV} {rest:List Stp} {s1:St} {ft:Foot} {K:St->List Foot->Prop} {grown:Nat->Bool} {cs:(Nat->Nat)->List AV} {pre post:(Nat->Nat)->List (Nat×Row)} {res:(Nat->Nat)->AV} (L:List (Nat×Nat)) (hcon:ConI P env f (L.map (·.1)) grown cs pre post res) (k:aops P env rest s1 fun s2 fts=>K s2 (ft::fts)) (hc:zaH env s.f o=some (f,args):=by exact rfl) (hk:(L.map (·.1)).Nodup:=by decide) (hr:(L.map (·.2)).Nodup:=by decide)
 (h1:AV.ren.renL (gin (toKL L)) args=cs (vin L s.vs):=by simp only[go_sem]<;>rfl) (h2:zqm L s.rows (pre (vin L s.vs)):=by simp only[go_sem,and_self]<;>trivial) (he:zqp s L:=by simp only[go_sem,and_self]<;>trivial)
 (h3: ∀o:Nat->Nat,zi9 L grown s.vs o (post o) (post fun _=>0) L:=by intro o;simp only[go_sem,behind,and_self]<;>trivial) (h4: ∀o:Nat->Nat,(res o).ren (gout (toRL L) o (nout L grown s.vs))=(res fun _=>0).ren (gout (toRL L) (fun _=>0) (nout L grown s.vs)):=by intro o;simp only[go_sem]<;>rfl)
 (h5:Is ((⟨(res fun _=>0).ren (gout (toRL L) (fun _=>0) (nout L grown s.vs)),L.map (lay grown (behind L grown s.vs (post fun _=>0)))⟩:Out).app o.dst s) s1:=by simp only[go_sem,behind];exact iR) (h6:Is (⟨L.map (·.2),L.map (·.2),wrs (L.map (lay grown (behind L grown s.vs (post fun _=>0)))),wes (L.map (lay grown (behind L grown s.vs (post fun _=>0))))⟩:Foot) ft:=by simp only[go_sem,behind];exact iR):aops P env (⟨o, .always⟩::rest) s K:=zgV L hc hcon hk hr h1 h2 he h3 h4 h5 h6 k
theorem iL {o:Oper} {f:FuncId} {args:List AV} {rest:List Stp} {s1:St} {ft:Foot} {K:St->List Foot->Prop} {grown:Nat->Bool} {cs:(Nat->Nat)->List AV} {pre post:(Nat->Nat)->List (Nat×Row)} {res:(Nat->Nat)->AV} (L:List (Nat×Nat)) (hcon:ConI P env f (L.map (·.1)) grown cs pre post res) (k:aops P env rest s1 fun s2 fts=>K s2 (ft::fts)) (hc:zaH env s.f o=some (f,args):=by exact rfl) (hk:(L.map (·.1)).Nodup:=by decide) (hr:(L.map (·.2)).Nodup:=by decide)
 (h1:AV.ren.renL (gin (toKL L)) args=cs (vin L s.vs):=by simp only[go_sem,F]<;>rfl) (h2:zqm L s.rows (pre (vin L s.vs)):=by simp only[go_sem,F,and_self]<;>trivial) (he:zqp s L:=by simp only[go_sem,F,and_self]<;>trivial)
 (h3: ∀o:Nat->Nat,zi9 L grown s.vs o (post o) (post fun _=>0) L:=by intro o;simp only[go_sem,F,behind,and_self]<;>trivial) (h4: ∀o:Nat->Nat,(res o).ren (gout (toRL L) o (nout L grown s.vs))=(res fun _=>0).ren (gout (toRL L) (fun _=>0) (nout L grown s.vs)):=by intro o;simp only[go_sem,F]<;>rfl)
 (h5:Is ((⟨(res fun _=>0).ren (gout (toRL L) (fun _=>0) (nout L grown s.vs)),L.map (lay grown (behind L grown s.vs (post fun _=>0)))⟩:Out).app o.dst s) s1:=by simp only[go_sem,F,behind];exact iR) (h6:Is (⟨L.map (·.2),L.map (·.2),wrs (L.map (lay grown (behind L grown s.vs (post fun _=>0)))),wes (L.map (lay grown (behind L grown s.vs (post fun _=>0))))⟩:Foot) ft:=by simp only[go_sem,F,behind];exact iR):aops P env (⟨o, .always⟩::rest) s K:=zgV L hc hcon hk hr h1 h2 he h3 h4 h5 h6 k
theorem nC0 {c:Code} {s1:St} {row:Row} {e:List AV} (r r2 i j:Nat) (ty:TypeId) (sz:Nat) (h:awp P env nt c Q s1) (hr:Is (s.rows r) (some row):=by simp only[go_sem];exact iR) (hi:row.es[i]? =some e:=by exact rfl) (hj:e[j]? =some (.lit (.slice none 0 0)):=by exact rfl)
 (h1:Is ((s.renew r2 ⟨sz,[],ty,true⟩ false).setRow r { row with es:=row.es.set i (e.set j (.row r2 (s.vs r2+1))) }) s1:=by simp only[go_sem];exact iR) (hne:r2≠r:=by decide) (hsz:0<sz:=by decide) (hrz:row.sz≠0:=by exact Nat.succ_ne_zero _) (hp:row.pure=false:=by exact rfl):awp P env nt c Q s:=zh3 r r2 i j row e ty sz hne hsz hrz hp hi hj hr h1 h
theorem nC {c:Code} {s1:St} {row:Row} {e:List AV} (r r2 i j:Nat) (ty:TypeId) (sz:Nat) (h:awp P env nt c Q s1) (hr:Is (s.rows r) (some row):=by simp only[go_sem,F];exact iR) (hi:row.es[i]? =some e:=by exact rfl) (hj:e[j]? =some (.lit (.slice none 0 0)):=by exact rfl)
 (h1:Is ((s.renew r2 ⟨sz,[],ty,true⟩ false).setRow r { row with es:=row.es.set i (e.set j (.row r2 (s.vs r2+1))) }) s1:=by simp only[go_sem,F];exact iR) (hne:r2≠r:=by decide) (hsz:0<sz:=by decide) (hrz:row.sz≠0:=by exact Nat.succ_ne_zero _) (hp:row.pure=false:=by exact rfl):awp P env nt c Q s:=zh3 r r2 i j row e ty sz hne hsz hrz hp hi hj hr h1 h
theorem rI {p:Prop} (h:p:=by
 refine zal ?_;try simp only[zcV,zdr, ↓reduceIte,Nat.reduceEqDiff,reduceCtorEq]
 refine zvK ?_ ?_<;>simp only[go_sem,F,implies_true,and_self,imp_self,false_implies,AV.tuple.injEq,exists_eq_left',ne_eq]):p:=h
theorem rN {p:Prop} (h:p:=by refine ztV ?_ ?_<;>simp only[go_sem,F,implies_true,and_self,imp_self,false_implies,AV.tuple.injEq,exists_eq_left',ne_eq]):p:=h
theorem qi {f:FuncId} {fn:Func} {c:Code} {n:Nat} {rs:Array ResultVar} {ids:List Nat} {grown:Nat->Bool} {cs:(Nat->Nat)->List AV} {pre post:(Nat->Nat)->List (Nat×Row)} {res:(Nat->Nat)->AV} (hf:P.funcs[f]? =some fn) (hc: ∀(args:Array Value) (w:World),(callFunc f args).run P w= .ok (.enter f args) w) (hn:fn.ntmps=n) (hr:fn.results=rs)
 (h: ∀vs esc,(∀k∈ids,esc k=false)->awp P env n c (retI P rs.toList ids grown vs post res) ⟨fun t=>(cs vs).getD t .any,zax (pre vs),vs,esc⟩) (hb:fn.body=some c:=by exact rfl) (hl: ∀vs,(cs vs).length<=n:=by intro _;simp):ConI P env f ids grown cs pre post res:=⟨hc,fn,c,hf,hb,(by rw[hn];exact hl),(by rw[hn,hr];exact h)⟩
end
end
section
open Go.RowKit Go.Extern.Stop Go.Stop Go.Extern
end
section
open Go.RowKit
end
section
open Go.RowKit
abbrev smallCs (k:Int):Array Value:= #[.string ⟨#[97]⟩, .int .i64 1, .int .i64 (-1), .int .i64 k, .slice none 0 0, .slice none 0 0, .string ⟨#[98]⟩, .int .i64 1, .int .i64 0, .int .i64 (-1), .slice none 0 0, .slice none 0 0]
def zny (w:World) (g:Nat) (k:Int):Prop:= ∀i v,(smallCs k)[i]? =some v->w.cell? ⟨g,i,none⟩=some v
theorem zny.below {w w':World} {g:Nat} {k:Int} (h:zny w g k) (hb:Below w.heap.size w w'):zny w' g k:=fun i v hi=>cell_below (h i v hi) hb
theorem EnvOk.all {env:Env} {S:Nat->Nat->Prop} {w:World} (h:EnvOk env S w):EnvOk env (fun b _=>b<w.heap.size) w:=⟨h.inv,fun _ _ h=>h,fun g c hg=>by
 obtain⟨u,h1,h2,h3,h4⟩:=h.env g c hg
 exact⟨u,h1,h2,h.low _ _ h3,h4.mono fun b o hb=>⟨h.low _ _ hb, .rfl⟩⟩⟩
theorem EnvOk.belowA {env:Env} {w w':World} (h:EnvOk env (fun b _=>b<w.heap.size) w) (hb:Below w.heap.size w w'):EnvOk env (fun b _=>b<w'.heap.size) w':=⟨env.up _ _ h.inv hb,fun _ _ h=>h,fun g c hg=>by
 obtain⟨u,h1,h2,h3,h4⟩:=h.env g c hg
 exact⟨u,cell_below h1 hb,h2,Nat.lt_of_lt_of_le h3 hb.size,h4.mono fun b o (hbo:b<_)=>⟨Nat.lt_of_lt_of_le hbo hb.size,hb.stay hbo⟩⟩⟩
theorem zuO {P:Program} {env:Env} {f:FuncId} {cs:List AV} {res:AV} {w:World} {vs:List Value} (h:Con P env f cs res) (hE:EnvOk env (fun b _=>b<w.heap.size) w) (hres: ∀e sz es,res≠ .own e sz es) (hv:RAs (fun b _=>b<w.heap.size) w vs cs):
 Calls P f vs.toArray w fun e w'=> ∃v,e= .returned v/\Below w.heap.size w w'/\EnvOk env (fun b _=>b<w'.heap.size) w'/\RV (fun b _=>b<w'.heap.size) w' v res:=by
 obtain⟨h1,h2⟩:=hv.at_;refine(h.calls w _ vs hE h1 h2).mono ?_;rintro e w' ⟨v,rfl,hb,S',_,_,hlt,hr⟩;refine⟨v,rfl,hb,hE.belowA hb,?_⟩
 have hr':RV S' w' v res:=by
  cases res with
  |own e sz es=>exact(hres e sz es rfl).elim
  |_=>exact hr
 exact hr'.mono fun b o hbo=>⟨hlt b o hbo, .rfl⟩
end
section
open Go.RowKit
end
section
open Go.RowKit
end
section
open Go.RowKit
structure ChEnv (env:Env) (a1 a8:Addr):Prop where
 e1:env 1=some (sentV a1)
 e8:env 7=some (sentV a8)
def zdT (a1 a8:Addr) (l:List OpD) (vs ss:Int):AV:=if zeM l vs ss=0 then nilE else if zeM l vs ss=8 then errV (-1) (sentV a8) else errV (-1) (sentV a1)
theorem ziW {l:List OpD} (vs ss:Int) (h:32<l.length):zeM l vs ss=8:=by unfold zeM;rw[if_pos h]
theorem zlU {l:List OpD} {vs ss:Int} (h: ¬32<l.length) (hh:hgt vs ss l 0=some 1):zeM l vs ss=0:=by unfold zeM;rw[if_neg h,if_pos hh]
theorem zgP {l:List OpD} {vs ss:Int} (h: ¬32<l.length) (hh:hgt vs ss l 0≠some 1):zeM l vs ss=1:=by unfold zeM;rw[if_neg h,if_neg hh]
theorem zkE {vs ss n:Int} {o:OpD} (h:zbc vs ss n o=true): ¬zad o.kind<0/\ ¬n<zad o.kind/\numB o vs ss=true:=by
 simp only[zbc,Bool.and_eq_true,decide_eq_true_eq]at h;exact⟨by omega,by omega,h.2⟩
theorem ziu {vs ss n:Int} {o:OpD} (h:zbc vs ss n o=false):zad o.kind<0\/(¬zad o.kind<0/\n<zad o.kind)\/(¬zad o.kind<0/\ ¬n<zad o.kind/\numB o vs ss=false):=by
 by_cases a:zad o.kind<0
 ·exact .inl a
 by_cases b:n<zad o.kind
 ·exact .inr (.inl ⟨a,b⟩)
 refine .inr (.inr ⟨a,b,?_⟩);have e1:0<=zad o.kind:=by omega
 have e2:zad o.kind<=n:=by omega
 simpa[zbc,e1,e2]using h
theorem zda (env:Env) (a1 a8:Addr) (he:ChEnv env a1 a8) (l:List OpD) (vs ss:Int):Con prog env 233 [opsAV l,I vs,I ss] (zdT a1 a8 l vs ss):=by
 have g1:=zfW he.e1;have g8:=zfW he.e8;refine qf func233 call233 ntmps233 results233 ?_;by_cases hl:32<l.length
 ·have hL:(32:Int)<l.length:=by omega
  rw[show zdT a1 a8 l vs ss=errV (-1) (sentV a8) by unfold zdT;rw[ziW vs ss hl];rfl];have F:=ai hL g8;repeat (first|refine st ?_|refine cC (zbA env _ a8) ?_)
  exact aR
 have hL: ¬(32:Int)<l.length:=by omega
 have F:=hL;repeat refine st ?_
 refine zab (D:=Nat×Int) (fun d _=>[(1,I vs),(2,I ss),(7,I d.2),(16,opsAV l),(17,I l.length),(18,I d.1)]) (fun _ _=>[]) (fun d _ _=>d.1<=l.length/\hgt vs ss l 0=hgt vs ss (l.drop d.1) d.2/\0<=d.2/\d.2<=d.1) (fun d=>l.length-d.1) (0,0) ?_ ?_ ?_ ?_
 ·exact⟨Nat.zero_le _,rfl,Int.le_refl _,Int.le_refl _⟩
 ·exact qe
 ·exact qe
 rintro⟨i,n⟩ ws esc ⟨hi,hh,h0,hn⟩;simp only at hi hh h0 hn;by_cases hlt:i<l.length
 ·obtain⟨o,ho,_⟩:=zak hlt;obtain⟨up,no⟩:=zgM ho hh;have k1:=nlt hlt;have k2:=zaa hlt (by omega);have hop:=zgd o.kind;cases hok:zbc vs ss n o with
  | true=>
    obtain⟨b1,b2,b3⟩:=zkE hok;have w1:IntKind.i64.wrap (1-zad o.kind)=1-zad o.kind:=zaw (by omega) (by omega);have w2:IntKind.i64.wrap (n+(1-zad o.kind))=n+(1-zad o.kind):=zaw (by omega) (by omega);have F:=ai9 k1 k2 ho opAV.eq_1 b1 b2 b3 w1 w2;repeat refine tz2 (zcu env o.kind) (zdD env o vs ss) ?_
    refine⟨(i+1,n+(1-zad o.kind)),⟨by simp only;omega,?_,by simp only;omega,by simp only;omega⟩,?_,?_,?_⟩
    ·simp only;rw[up hok]
     congr 1
     omega
    ·exact qe
    ·exact qe
    ·simp only;omega
  | false=>
    rw[show zdT a1 a8 l vs ss=errV (-1) (sentV a1) by unfold zdT;rw[zgP hl (by rw[no hok];simp)];rfl];rcases ziu hok with b1|⟨b1,b2⟩|⟨b1,b2,b3⟩
    ·have F:=ai6 k1 k2 ho opAV.eq_1 b1 g1;repeat (first|refine st ?_|refine cC (zcu env o.kind) ?_|refine cC (zdD env o vs ss) ?_|refine cC (zbA env _ a1) ?_)
     exact aR
    ·have F:=ai7 k1 k2 ho opAV.eq_1 b1 b2 g1;repeat (first|refine st ?_|refine cC (zcu env o.kind) ?_|refine cC (zdD env o vs ss) ?_|refine cC (zbA env _ a1) ?_)
     exact aR
    ·have F:=ai8 k1 k2 ho opAV.eq_1 b1 b2 b3 g1;repeat (first|refine st ?_|refine cC (zcu env o.kind) ?_|refine cC (zdD env o vs ss) ?_|refine cC (zbA env _ a1) ?_)
     exact aR
 ·have k1: ¬(i:Int)< (l.length:Int):=by omega
  have hend:=zjY (by omega) hh;by_cases h1:n=1
  ·subst h1;rw[show zdT a1 a8 l vs ss=nilE by unfold zdT;rw[zlU hl hend];rfl];have F:=ai k1 g1;repeat (first|refine st ?_|refine cC (zbA env _ a1) ?_)
   exact aR
  ·rw[show zdT a1 a8 l vs ss=errV (-1) (sentV a1) by unfold zdT;rw[zgP hl (by rw[hend];simpa using h1)];rfl];have k2:(n != 1)=true:=by simpa using h1
   have F:=ai3 k1 k2 g1;repeat (first|refine st ?_|refine cC (zbA env _ a1) ?_)
   exact aR
theorem zii (env:Env) (l:List OpD) (vs ss:Int):Con prog env 199 [opsAV l,I vs,I ss] (I (zeM l vs ss)):=by
 refine qf func199 call199 ntmps199 results199 ?_;by_cases hl:32<l.length
 ·have hL:(32:Int)<l.length:=by omega
  rw[ziW vs ss hl];have F:=hL;repeat refine st ?_
  exact aR
 have hL: ¬(32:Int)<l.length:=by omega
 have F:=hL;repeat refine st ?_
 refine zab (D:=Nat×Int) (fun d _=>[(0,opsAV l),(1,I vs),(2,I ss),(7,I d.2),(8,I d.1)]) (fun _ _=>[]) (fun d _ _=>d.1<=l.length/\hgt vs ss l 0=hgt vs ss (l.drop d.1) d.2/\0<=d.2/\d.2<=d.1) (fun d=>l.length-d.1) (0,0) ?_ ?_ ?_ ?_
 ·exact⟨Nat.zero_le _,rfl,Int.le_refl _,Int.le_refl _⟩
 ·exact qe
 ·exact qe
 rintro⟨i,n⟩ ws esc ⟨hi,hh,h0,hn⟩;simp only at hi hh h0 hn;by_cases hlt:i<l.length
 ·obtain⟨o,ho,_⟩:=zak hlt;obtain⟨up,no⟩:=zgM ho hh;have k1:=nlt hlt;have k2:=zaa hlt (by omega);have hop:=zgd o.kind;cases hok:zbc vs ss n o with
  | true=>
    obtain⟨b1,b2,b3⟩:=zkE hok;have w1:IntKind.i64.wrap (n-zad o.kind)=n-zad o.kind:=zaw (by omega) (by omega);have w2:IntKind.i64.wrap (n-zad o.kind+1)=n-zad o.kind+1:=zaw (by omega) (by omega);have F:=ai9 k1 k2 ho opAV.eq_1 b1 b2 b3 w1 w2;repeat refine tz2 (zct env o.kind) (zdA env o vs ss) ?_
    refine⟨(i+1,n-zad o.kind+1),⟨by simp only;omega,up hok,by simp only;omega,by simp only;omega⟩,?_,?_,?_⟩
    ·exact qe
    ·exact qe
    ·simp only;omega
  | false=>
    rw[zgP hl (by rw[no hok];simp)];rcases ziu hok with b1|⟨b1,b2⟩|⟨b1,b2,b3⟩
    ·have F:=ai5 k1 k2 ho opAV.eq_1 b1;repeat refine tz2 (zct env o.kind) (zdA env o vs ss) ?_
     exact aR
    ·have F:=ai6 k1 k2 ho opAV.eq_1 b1 b2;repeat refine tz2 (zct env o.kind) (zdA env o vs ss) ?_
     exact aR
    ·have F:=ai7 k1 k2 ho opAV.eq_1 b1 b2 b3;repeat refine tz2 (zct env o.kind) (zdA env o vs ss) ?_
     exact aR
 ·have k1: ¬(i:Int)< (l.length:Int):=by omega
  have hend:=zjY (by omega) hh;by_cases h1:n=1
  ·subst h1;rw[zlU hl hend];have F:=k1;repeat refine st ?_
   exact aR
  ·rw[zgP hl (by rw[hend];simpa using h1)];have k2:(n != 1)=true:=by simpa using h1
   have F:=ai k1 k2;repeat refine st ?_
   exact aR
end

end Go.Proofs.YtbpmkofnfgdegaaGreatDoor