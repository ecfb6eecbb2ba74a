/- Contracts of expressions' checks, of numbers among numbers: by the walk without memory. -/
import Derived.Test.YtbjldjekgepopaaGreatDoorT10
set_option maxRecDepth 100000
set_option maxHeartbeats 8000000
set_option linter.unusedSimpArgs false
namespace Go.Proofs.YtbjldjekgepopaaGreatDoor
open Go.Proofs.Tryz
section
open Go.RowKit
def inZ (c:ChD) (i:Int):Bool:=decide (0<=i)&&decide (i<c.states.length)
def aO (c:ChD) (i:Int):Int:=match at_ c i with
 |some s=>s.parent
 |none=> -1
theorem aI {c:ChD} {i:Int} :inZ c i=true↔0<=i/\i<c.states.length:=by
 unfold inZ;rw[KY,K6,K6]
theorem aW {c:ChD} {k:Nat} :inZ c k=true↔k<c.states.length:=by rw[aI];omega
theorem bH (c:ChD) (k:Nat):at_ c k=c.states[k]? :=by unfold at_;rw[K0 (by omega),Lj]
theorem dD {c:ChD} {i:Int} (h:inZ c i=true): ∃k s,i=(k:Nat)/\c.states[k]? =some s/\at_ c i=some s:=by
 obtain⟨h1,h2⟩:=aI.1 h;have hk:i.toNat<c.states.length:=by omega
 refine⟨i.toNat,c.states[i.toNat],by omega,KV hk,?_⟩;unfold at_;rw[K0 h1,KV hk]
theorem dH {c:ChD} (h:Right c) {i:Int} (hi:inZ c i=true): -1<=aO c i/\aO c i<i:=by
 obtain⟨k,s,rfl,h1,h2⟩:=dD hi;unfold aO;rw[h2];exact h.par k s h1
theorem dh {c:ChD} {k:Nat} {s:StD} (h:c.states[k]? =some s):aO c k=s.parent:=by
 unfold aO;rw[bH,h]
/-! The way up -/
def upF (c:ChD):Nat->Int->List Int
 |0,_=>[]
 |f+1,i=>if inZ c i=true then aO c i::upF c f (aO c i) else []
def upL (c:ChD) (i:Int):List Int:=upF c 40 i
theorem jb {c:ChD} {i:Int} (h:inZ c i=false) (f:Nat):upF c f i=[]:=by
 cases f with
 |zero=>rfl
 |succ f=>unfold upF;rw[h];simp
theorem Cl {c:ChD} (h:Right c): ∀(f g:Nat) (i:Int),i<f->i<g->upF c f i=upF c g i
 | 0,g,i,h1,h2=>by
   have:inZ c i=false:=by
    cases hh:inZ c i
    ·rfl
    ·have:=aI.1 hh;omega
   rw[jb this,jb this]
 | f+1,g,i,h1,h2=>by
   cases hh:inZ c i with
   |false=>rw[jb hh,jb hh]
   | true=>
     have h0:=(aI.1 hh).1;obtain⟨g',rfl⟩: ∃g',g=g'+1:=⟨g-1,by omega⟩;have:=dH h hh;unfold upF;rw[hh];simp only[L4];rw[Cl h f g' (aO c i) (by omega) (by omega)]
theorem cE {c:ChD} {i:Int} (h:inZ c i=false):upL c i=[]:=jb h _
theorem qb {c:ChD} (h:Right c) {i:Int} (hi:inZ c i=true):upL c i=aO c i::upL c (aO c i):=by
 have hf:=h.few;have h2:=aI.1 hi;have h3:=dH h hi;show upF c (39+1) i=aO c i::upF c 40 (aO c i);rw[show upF c (39+1) i=if inZ c i=true then aO c i::upF c 39 (aO c i) else [] from rfl,K0 hi,Cl h 39 40 _ (by omega) (by omega)]
theorem jg {c:ChD} (h:Right c): ∀(f:Nat) (i:Int) (k:Int),k∈upF c f i-> -1<=k/\k<i
 |0,i,k,hk=>by simp[upF]at hk
 | f+1,i,k,hk=>by
   cases hh:inZ c i with
   |false=>rw[jb hh]at hk;simp at hk
   | true=>
     have:=dH h hh;unfold upF at hk;rw[hh]at hk;simp only[L4,Kk]at hk;rcases hk with rfl|hk
     ·exact this
     ·have:=jg h f _ k hk;omega
theorem cQ {c:ChD} (h:Right c) {i:Int} (hi:inZ c i=true) {k:Int} :k∈upL c i↔k=aO c i\/k∈upL c (aO c i):=by rw[qb h hi,Kk]
theorem mh {c:ChD} : ∀(f:Nat) (i:Int),(upF c f i).length<=f
 |0,i=>by simp[upF]
 | f+1,i=>by
   unfold upF;split
   ·have:=mh (c:=c) f (aO c i);simp;omega
   ·simp
theorem qY {c:ChD} (h:Right c): ∀(n:Nat) (i:Int),inZ c i=true->i<n-> -1∈upL c i
 |0,i,hi,hn=>by have:=aI.1 hi;omega
 | n+1,i,hi,hn=>by
   rw[cQ h hi];have hp:=dH h hi;by_cases e:aO c i= -1
   ·exact .inl e.symm
   ·have h2:=aI.1 hi;exact .inr (qY h n _ (aI.2 (by omega)) (by omega))
theorem gh {c:ChD} (h:Right c): ∀(n:Nat) (i j k:Int),i<n->j∈upL c i->k∈upL c j->k∈upL c i
 | 0,i,j,k,hn,hj,hk=>by
   cases hh:inZ c i with
   |false=>rw[cE hh]at hj;simp at hj
   |true=>have:=aI.1 hh;omega
 | n+1,i,j,k,hn,hj,hk=>by
   cases hh:inZ c i with
   |false=>rw[cE hh]at hj;simp at hj
   | true=>
     rw[cQ h hh]at hj |-;have hp:=dH h hh;rcases hj with rfl|hj
     ·exact .inr hk
     ·exact .inr (gh h n _ j k (by omega) hj hk)
/-! What is above a state, as bits -/
def BZ (c:ChD):Nat->Int->Nat
 |0,_=>0
 |f+1,i=>if inZ c i=true then(if 0<=aO c i then BZ c f (aO c i)||| 2^(aO c i).toNat else 0) else 0
theorem sd {c:ChD} (h:Right c): ∀(f:Nat) (i:Int) (k:Nat),(BZ c f i).testBit k=decide ((k:Int)∈upF c f i)
 |0,i,k=>by simp[BZ,upF]
 | f+1,i,k=>by
   unfold BZ upF;cases hh:inZ c i with
   |false=>simp
   | true=>
     simp only[L4];have hp:=dH h hh;by_cases e:0<=aO c i
     ·rw[K0 e,OG,sd h f,NQ];by_cases e2:(k:Int)=aO c i
      ·have:(aO c i).toNat=k:=by omega
       simp[e2,this]
      ·have: ¬(aO c i).toNat=k:=by omega
       simp[e2,this]
     ·rw[KZ e];have hm:aO c i= -1:=by omega
      have hz:inZ c (-1)=false:=by
       cases hq:inZ c (-1)
       ·rfl
       ·have:=aI.1 hq;omega
      rw[hm,jb hz];simp
def mask (c:ChD) (i:Int):Nat:=BZ c 40 i
theorem rO {c:ChD} (h:Right c) (i:Int) (k:Nat):(mask c i).testBit k=decide ((k:Int)∈upL c i):=sd h 40 i k
theorem ln {c:ChD} (h:Right c) {i:Int} (hi:i<32):mask c i<2^32:=by
 apply Nat.lt_pow_two_of_testBit;intro k hk;rw[rO h];simp only[LN];intro hm;have:=jg h 40 i k hm;omega
theorem uj {c:ChD} (h:Right c) {i:Int} (hi:inZ c i=true):mask c i=if 0<=aO c i then mask c (aO c i)||| 2^(aO c i).toNat else 0:=by
 apply Nat.eq_of_testBit_eq;intro k;have hp:=dH h hi;rw[rO h,qb h hi];by_cases e:0<=aO c i
 ·rw[K0 e,OG,rO h,NQ];by_cases e2:(k:Int)=aO c i
  ·have:(aO c i).toNat=k:=by omega
   simp[e2,this]
  ·have: ¬(aO c i).toNat=k:=by omega
   simp[e2,this]
 ·rw[KZ e];have hm:aO c i= -1:=by omega
  have hz:inZ c (-1)=false:=by
   cases hq:inZ c (-1)
   ·rfl
   ·have:=aI.1 hq;omega
  rw[hm,cE hz];simp
theorem dJ {α β:Type} {f g:α->List β} : ∀ {l:List α},(∀x∈l,f x=g x)->l.flatMap f=l.flatMap g
 |[],_=>rfl
 | x::l,h=>by
   simp only[N6];rw[h x (by simp),dJ fun y hy=>h y (by simp[hy])]
/-! The walk -/
def pe (c:ChD):Nat->Int->List Nat
 |0,_=>[]
 |f+1,i=>(kidsL c i false).flatMap fun k=>k::pe c f k
def walkL (c:ChD) (i:Int):List Nat:=pe c 40 i
theorem dm {c:ChD} {i:Int} {k:Nat} :k∈kidsL c i false↔k<c.states.length/\aO c k=i:=by
 unfold kidsL bR;rw[Kb,Kr];constructor
 ·rintro⟨h1,h2⟩;obtain⟨s,hs⟩:=gE h1;refine⟨h1,?_⟩;unfold cn at h2;rw[hs]at h2;rw[dh hs];simpa using h2
 ·rintro⟨h1,h2⟩;obtain⟨s,hs⟩:=gE h1;refine⟨h1,?_⟩;unfold cn;rw[hs];rw[dh hs]at h2;simp[h2]
theorem bI (c:ChD) (i:Int) (real:Bool):(kidsL c i real).Nodup:=Nw Lk List.nodup_range
theorem aV {c:ChD} {i:Int} {k:Nat} (h:k∈kidsL c i true):k∈kidsL c i false/\ ∃s,c.states[k]? =some s/\aS s=false:=by
 unfold kidsL bR at h |-;rw[Kb]at h |-;obtain⟨h1,h2⟩:=h;unfold cn at h2 |-;cases hs:c.states[k]? with
 |none=>rw[hs]at h2;cases h2
 | some s=>
   rw[hs]at h2;simp at h2 |-;exact⟨⟨by simpa using h1,h2.1⟩,h2.2⟩
theorem bF {c:ChD} (h:Right c) {i:Int} {k:Nat} (hk:k∈kidsL c i false):i<k/\k<c.states.length:=by
 obtain⟨h1,h2⟩:=dm.1 hk;have:=dH h (aW.2 h1);omega
theorem Dy {c:ChD} (h:Right c): ∀(f g:Nat) (i:Int),(c.states.length:Int)<=i+f->(c.states.length:Int)<=i+g->pe c f i=pe c g i:=by
 have none: ∀(g:Nat) (i:Int),(c.states.length:Int)<=i->pe c g i=[]:=fun g i hi=>by
  cases g with
  |zero=>rfl
  | succ g=>
    unfold pe;have:kidsL c i false=[]:=M3.2 fun k hk=>by have:=bF h hk;omega
    rw[this];rfl
 intro f
 induction f with
 |zero=>intro g i h1 h2;rw[none g i (by omega)];rfl
 | succ f ih=>
   intro g i h1 h2;cases g with
   |zero=>rw[none (f+1) i (by omega)];rfl
   | succ g=>
     unfold pe;apply dJ;intro k hk;have:=bF h hk;rw[ih g k (by omega) (by omega)]
theorem walk_eq {c:ChD} (h:Right c) {i:Int} (_hi: -1<=i):walkL c i=(kidsL c i false).flatMap fun k=>k::walkL c k:=by
 have hf:=h.few;show (kidsL c i false).flatMap (fun k=>k::pe c 39 k)=_;apply dJ;intro k hk;have:=bF h hk;rw[show pe c 39 k=walkL c k from Dy h 39 40 k (by omega) (by omega)]
theorem jH {c:ChD} (h:Right c): ∀(n:Nat) (i:Int) (m:Nat), -1<=i->(c.states.length:Int)<=i+n->(m∈walkL c i↔m<c.states.length/\i∈upL c m)
 | 0,i,m,hi,hn=>by
   rw[walk_eq h hi];have:kidsL c i false=[]:=M3.2 fun k hk=>by have:=bF h hk;omega
   rw[this];simp only[List.flatMap_nil,List.not_mem_nil,false_iff,not_and];intro h1 h2;have:=jg h 40 m i h2;omega
 | n+1,i,m,hi,hn=>by
   rw[walk_eq h hi,M4];constructor
   ·rintro⟨k,hk,hm⟩;have hg:=bF h hk;obtain⟨k1,k2⟩:=dm.1 hk;rcases Kk.1 hm with rfl|hm
    ·exact⟨k1,(cQ h (aW.2 k1)).2 (.inl k2.symm)⟩
    ·obtain⟨m1,m2⟩:=(jH h n k m (by omega) (by omega)).1 hm;refine⟨m1,gh h 40 m k i (by have:=h.few;omega) m2 ((cQ h (aW.2 k1)).2 (.inl k2.symm))⟩
   ·rintro⟨h1,h2⟩
    have key: ∀(d:Nat) (m:Nat),m<d->m<c.states.length->i∈upL c m-> ∃k∈kidsL c i false,m=k\/(k:Int)∈upL c m:=fun d=>by
     induction d with
     |zero=>intro m hd;omega
     | succ d ih=>
       intro m hd hm hu;have hin:=aW.2 hm;rcases (cQ h hin).1 hu with e|e
       ·exact⟨m,dm.2 ⟨hm,e.symm⟩, .inl rfl⟩
       ·have hp:=dH h hin
        have h0:0<=aO c m:=by
         rcases O4 (aO c m) 0 with q|q
         ·have hz:inZ c (aO c m)=false:=by
           cases hq:inZ c (aO c m)
           ·rfl
           ·have:=aI.1 hq;omega
          rw[cE hz]at e;simp at e
         ·exact q
        obtain⟨p,hpe⟩: ∃p:Nat,aO c m=p:=⟨(aO c m).toNat,by omega⟩;rw[hpe]at e hp;obtain⟨k,hk,hk2⟩:=ih p (by omega) (by omega) e;refine⟨k,hk, .inr ((cQ h hin).2 ?_)⟩;rw[hpe];rcases hk2 with rfl|hk2
        ·exact .inl rfl
        ·exact .inr hk2
    obtain⟨k,hk,hk2⟩:=key (m+1) m (by omega) h1 h2;have hg:=bF h hk;refine⟨k,hk,Kk.2 ?_⟩;rcases hk2 with e|e
    ·exact .inl e
    ·exact .inr ((jH h n k m (by omega) (by omega)).2 ⟨h1,e⟩)
theorem jG {c:ChD} (h:Right c) (m:Nat):m∈walkL c (-1)↔m<c.states.length:=by
 rw[jH h 40 (-1) m (by omega) (by have:=h.few;omega)];exact⟨fun h=>h.1,fun hm=>⟨hm,qY h (m+1) m (aW.2 hm) (by omega)⟩⟩
theorem wu {c:ChD} (h:Right c) {i:Int} {k1 k2:Nat} (h1:k1∈kidsL c i false) (h2:k2∈kidsL c i false): ∀(d m:Nat),m<d->m<c.states.length->(m=k1\/(k1:Int)∈upL c m)->(m=k2\/(k2:Int)∈upL c m)->k1=k2:=by
 obtain⟨a1,b1⟩:=dm.1 h1;obtain⟨a2,b2⟩:=dm.1 h2
 have no: ∀ {x y:Nat},x<c.states.length->aO c x=i->y<c.states.length->aO c y=i-> ¬(y:Int)∈upL c x:=fun {x y} hx px hy py hm=>by
  have q1:=dH h (aW.2 hx);have q2:=dH h (aW.2 hy);rcases (cQ h (aW.2 hx)).1 hm with e|e
  ·omega
  ·have:=jg h 40 _ _ e;omega
 intro d
 induction d with
 |zero=>intro m hd;omega
 | succ d ih=>
   intro m hd hm e1 e2;rcases e1 with rfl|e1
   ·rcases e2 with rfl|e2
    ·rfl
    ·exact absurd e2 (no a1 b1 a2 b2)
   ·rcases e2 with rfl|e2
    ·exact absurd e1 (no a2 b2 a1 b1)
    ·have hin:=aW.2 hm;have hp:=dH h hin
     have h0:0<=aO c m:=by
      rcases O4 (aO c m) 0 with q|q
      ·have hz:inZ c (aO c m)=false:=by
        cases hq:inZ c (aO c m)
        ·rfl
        ·have:=aI.1 hq;omega
       rw[cQ h hin,cE hz]at e1;rcases e1 with e|e
       ·omega
       ·simp at e
      ·exact q
     obtain⟨p,hpe⟩: ∃p:Nat,aO c m=p:=⟨(aO c m).toNat,by omega⟩;rw[cQ h hin,hpe]at e1 e2;rw[hpe]at hp;exact ih p (by omega) (by omega) (by rcases e1 with e|e;exact .inl (by omega);exact .inr e) (by rcases e2 with e|e;exact .inl (by omega);exact .inr e)
theorem jV {c:ChD} (h:Right c): ∀(n:Nat) (i:Int), -1<=i->(c.states.length:Int)<=i+n->(walkL c i).Nodup
 | 0,i,hi,hn=>by
   rw[walk_eq h hi];have:kidsL c i false=[]:=M3.2 fun k hk=>by have:=bF h hk;omega
   rw[this];simp
 | n+1,i,hi,hn=>by
   rw[walk_eq h hi]
   have mem: ∀k∈kidsL c i false,∀m,m∈k::walkL c k->m<c.states.length/\(m=k\/(k:Int)∈upL c m):=fun k hk m hm=>by
    have hg:=bF h hk;rcases Kk.1 hm with rfl|hm
    ·exact⟨hg.2, .inl rfl⟩
    ·obtain⟨q1,q2⟩:=(jH h n k m (by omega) (by omega)).1 hm;exact⟨q1, .inr q2⟩
   have hnd:=bI c i false;rw[MB]at hnd;rw[MB,List.pairwise_flatMap];refine⟨fun k hk=> ?_,?_⟩
   ·rw[<-MB,M1];have hg:=bF h hk;refine⟨fun hm=> ?_,jV h n k (by omega) (by omega)⟩;have:=(jH h n k k (by omega) (by omega)).1 hm;have:=jg h 40 _ _ this.2;omega
   ·refine Np (R:=fun a b=>a≠b) ?_ hnd;intro k1 k2 hk1 hk2 hne m1 hm1 m2 hm2 e;subst e;obtain⟨q1,q2⟩:=mem k1 hk1 m1 hm1;obtain⟨_,q3⟩:=mem k2 hk2 m1 hm2;exact hne (wu h hk1 hk2 (m1+1) m1 (by omega) q1 q2 q3)
/-! Sorting by the walk -/
def sortL (c:ChD) (l:List Int):List Nat:=if l.all (inZ c)=true then(walkL c (-1)).filter fun k=>l.contains (k:Int) else []
theorem zA {c:ChD} (h:Right c) {l:List Int} (hl:l.all (inZ c)=true) {k:Nat} :k∈sortL c l↔(k:Int)∈l:=by
 unfold sortL;rw[K0 hl,Kb,jG h];simp only[K3];refine⟨fun h=>h.2,fun hk=>⟨aW.1 (K2.1 hl _ hk),hk⟩⟩
theorem qm {c:ChD} (h:Right c) (l:List Int):(sortL c l).Nodup:=by
 unfold sortL;split
 ·exact Nw Lk (jV h 40 (-1) (by omega) (by have:=h.few;omega))
 ·simp
end
section
open Go.RowKit
structure Full (c:ChD):Prop extends Right c where
 st: ∀(k:Nat) (s:StD),c.states[k]? =some s->bq c k s=true
 tr: ∀(k:Nat) (t:TrD),c.trans[k]? =some t->dP c t=true
 ini:l7 c=true
 ftr:c.trans.length<=64
theorem full_of {c:ChD} (h:(chk c).1=0):Full c:=by
 refine⟨zF h,?_,?_,?_,?_⟩<;>
 ·unfold chk at h;split at h
  ·simp at h
  rename_i h1;split at h
  ·simp at h
  split at h
  ·simp at h
  split at h
  ·simp at h
  rename_i h3;split at h
  ·simp at h
  rename_i h4;split at h
  ·simp at h
  rename_i h5
  first
   |(intro k s hs
     have:=dK h3 k (KW.1 hs).1;unfold km at this;rw[hs]at this
     exact this)
   |(intro k t ht
     have:=dK h5 k (KW.1 ht).1;unfold pw at this;rw[ht]at this
     exact this)
   |(simpa using h4)
   |omega
theorem Full.shape {c:ChD} (h:Full c) {k:Nat} {s:StD} (hs:c.states[k]? =some s):dG c k s=true:=by
 have:=h.st k s hs;simp only[bq,KY]at this;exact this.1.1.2
theorem r7 {l:List Nat} {n:Int} :inL l n=true↔ ∃k∈l,(k:Int)=n:=by
 unfold inL;rw[L8];simp
theorem Full.cases {c:ChD} (h:Full c) {k:Nat} {s:StD} (hs:c.states[k]? =some s):
 (s.kind=1/\((kidsL c k true=[]/\s.initial= -1)\/ ∃j∈kidsL c k true,s.initial=(j:Nat)))\/(s.kind=2/\s.initial= -1/\kidsL c k true≠[]/\ ∀j∈kidsL c k true,al c j=true)\/
  (s.kind=3/\kidsL c k false=[]/\s.initial= -1)\/((s.kind=4\/s.kind=5)/\kidsL c k false=[]/\cS c s=true/\inL (kidsL c s.parent true) s.initial=true):=by
 have hb:=h.shape hs;unfold dG at hb;split at hb
 ·rename_i e;refine .inl ⟨e,?_⟩;split at hb
  ·rename_i e2;exact .inl ⟨e2,by simpa using hb⟩
  ·obtain⟨j,hj,e3⟩:=r7.1 hb;exact .inr ⟨j,hj,e3.symm⟩
 split at hb
 ·rename_i e;simp only[KY,K6,LW,K2]at hb;exact .inr (.inl ⟨e,hb.2,fun e2=>by rw[e2]at hb;simp at hb,hb.1.1⟩)
 split at hb
 ·rename_i e;simp only[KY,LW]at hb;exact .inr (.inr (.inl ⟨e,by simpa using hb.1.1.1,hb.1.2⟩))
 split at hb
 ·rename_i e;simp only[KY,LW]at hb;exact .inr (.inr (.inr ⟨e,by simpa using hb.1.1.1.1,hb.1.1.1.2,hb.1.1.2⟩))
 ·cases hb
theorem rH {c:ChD} {i:Int} (h:kidsL c i false=[]):kidsL c i true=[]:=by
 apply M3.2;intro k hk;have:=(aV hk).1;rw[h]at this;simp at this
abbrev zL (l:List Nat):List Int:=l.map fun k:Nat=>(k:Int)
/-! What begins with a state -/
def bgF (c:ChD):Nat->Nat->List Nat
 |0,_=>[]
 | f+1,i=>i::match c.states[i]? with
   |some s=>if s.kind=1/\0<=s.initial then bgF c f s.initial.toNat else if s.kind=2 then(kidsL c i true).flatMap (bgF c f) else []
   |none=>[]
def bgL (c:ChD) (i:Nat):List Nat:=bgF c 40 i
theorem ww {c:ChD} (h:Full c) {i:Nat} {s:StD} (hs:c.states[i]? =some s) (h1:s.kind=1) (h0:0<=s.initial): ∃j∈kidsL c i true,s.initial=(j:Nat):=by
 rcases h.cases hs with⟨_,⟨_,e⟩|e⟩|⟨e,_⟩|⟨e,_⟩|⟨e,_⟩
 ·omega
 ·exact e
 ·omega
 ·omega
 ·omega
theorem xP {c:ChD} (h:Full c): ∀(f g:Nat) (i:Nat),i<c.states.length->c.states.length<=i+f->c.states.length<=i+g->bgF c f i=bgF c g i
 |0,g,i,h0,h1,h2=>by omega
 |f+1,0,i,h0,h1,h2=>by omega
 | f+1,g+1,i,h0,h1,h2=>by
   unfold bgF
   congr 1
   cases hs:c.states[i]? with
   |none=>rfl
   | some s=>
     simp only;split
     ·rename_i e;obtain⟨j,hj,e2⟩:=ww h hs e.1 e.2;have:=bF h.toRight (aV hj).1;rw[e2,Lj];exact xP h f g j (by omega) (by omega) (by omega)
     ·split
      ·apply dJ;intro k hk;have:=bF h.toRight (aV hk).1;exact xP h f g k (by omega) (by omega) (by omega)
      ·rfl
theorem HS (c:ChD) (f i:Nat):bgF c (f+1) i=i::match c.states[i]? with
 |some s=>if s.kind=1/\0<=s.initial then bgF c f s.initial.toNat else if s.kind=2 then(kidsL c i true).flatMap (bgF c f) else []
 |none=>[]:=rfl
theorem JS {c:ChD} (h:Full c) {i:Nat} {s:StD} (hs:c.states[i]? =some s):bgL c i=i::if s.kind=1/\0<=s.initial then bgL c s.initial.toNat else if s.kind=2 then(kidsL c i true).flatMap (bgL c) else []:=by
 have hi:=(KW.1 hs).1;have hf:=h.few;have e0:=HS c 39 i;rw[hs]at e0;simp only at e0
 have e1: ∀j,j∈kidsL c i true->bgF c 39 j=bgL c j:=fun j hj=>by
  have:=bF h.toRight (aV hj).1;exact xP h 39 40 j (by omega) (by omega) (by omega)
 refine Eq.trans e0 (Kx (List.cons i) ?_);by_cases q:s.kind=1/\0<=s.initial
 ·rw[K0 q,K0 q];obtain⟨j,hj,e2⟩:=ww h hs q.1 q.2;rw[e2,Lj];exact e1 j hj
 ·rw[KZ q,KZ q];by_cases q2:s.kind=2
  ·rw[K0 q2,K0 q2];exact dJ e1
  ·rw[KZ q2,KZ q2]
theorem mY {α β:Type} {f:α->List β} : ∀ {l:List α},(∀x∈l,f x=[])->l.flatMap f=[]
 |[],_=>rfl
 | x::l,h=>by
   simp only[N6];rw[h x (by simp),mY fun y hy=>h y (by simp[hy])];rfl
theorem flatMap_one {α β:Type} {f:α->List β} {a:α} : ∀ {l:List α},l.Nodup->a∈l->(∀x∈l,x≠a->f x=[])->l.flatMap f=f a
 |[],_,ha,_=>by simp at ha
 | x::l,hn,ha,h=>by
   obtain⟨h1,h2⟩:=M1.1 hn;simp only[N6];by_cases e:x=a
   ·subst e;rw[mY fun y hy=>h y (by simp[hy]) fun e=>h1 (e ▸ hy),Lm]
   ·rw[h x (by simp) e,Mc];exact flatMap_one h2 ((Kk.1 ha).resolve_left (MJ e)) fun y hy=>h y (by simp[hy])
theorem qH {c:ChD} (h:Full c) {i:Nat} {s:StD} (hs:c.states[i]? =some s):bgL c i=i::(kidsL c i true).flatMap fun k=>if s.kind=2\/s.initial=(k:Nat) then bgL c k else []:=by
 rw[JS h hs]
 congr 1
 rcases h.cases hs with⟨e,⟨e1,e2⟩|⟨j,hj,e2⟩⟩|⟨e,e1,_⟩|⟨e,e1,_⟩|⟨e,e1,_⟩
 ·rw[e1,KZ (by omega),KZ (by omega)];rfl
 ·rw[K0 ⟨e,by omega⟩,e2,Lj];rw[flatMap_one (bI c i true) hj fun x _ hne=>by rw[KZ];omega];rw[K0 (.inr rfl)]
 ·rw[KZ (by omega),K0 e];apply dJ;intro k _;rw[K0 (.inl e)]
 ·rw[KZ (by omega),KZ (by omega),rH e1];rfl
 ·rw[KZ (by omega),KZ (by omega),rH e1];rfl
theorem Ft {c:ChD} (h:Full c): ∀(n i m:Nat),i<c.states.length->c.states.length<=i+n->m∈bgL c i->i<=m/\m<c.states.length
 |0,i,m,hi,hn,_=>by omega
 | n+1,i,m,hi,hn,hm=>by
   obtain⟨s,hs⟩:=gE hi;rw[qH h hs,Kk,M4]at hm;rcases hm with rfl|⟨k,hk,hm⟩
   ·exact⟨K8 _,hi⟩
   ·have hg:=bF h.toRight (aV hk).1;split at hm
    ·have:=Ft h n k m (by omega) (by omega) hm;omega
    ·simp at hm
theorem xO {c:ChD} (h:Full c) {i:Nat} (hi:i<c.states.length):i∈bgL c i:=by
 obtain⟨s,hs⟩:=gE hi;rw[qH h hs];exact NW ..
theorem bg_from {c:ChD} (h:Full c): ∀(n i m:Nat),i<c.states.length->c.states.length<=i+n->m∈bgL c i->m=i\/ ∃p s,p∈bgL c i/\c.states[p]? =some s/\m∈kidsL c p true/\(s.kind=2\/s.initial=(m:Nat))
 |0,i,m,hi,hn,_=>by omega
 | n+1,i,m,hi,hn,hm=>by
   obtain⟨s,hs⟩:=gE hi;have hb:=qH h hs;rw[hb,Kk,M4]at hm;rcases hm with rfl|⟨k,hk,hm⟩
   ·exact .inl rfl
   ·have hg:=bF h.toRight (aV hk).1;split at hm
    ·rename_i e
     have sub: ∀x,x∈bgL c k->x∈bgL c i:=fun x hx=>by
      rw[hb,Kk,M4];exact .inr ⟨k,hk,by rw[K0 e];exact hx⟩
     rcases bg_from h n k m (by omega) (by omega) hm with rfl|⟨p,q,h1,h2⟩
     ·exact .inr ⟨i,s,xO h hi,hs,hk,e⟩
     ·exact .inr ⟨p,q,sub p h1,h2⟩
    ·simp at hm
theorem Dl {c:ChD} (h:Full c): ∀(n i m:Nat) (s:StD) (k:Nat),i<c.states.length->c.states.length<=i+n->m∈bgL c i->c.states[m]? =some s->k∈kidsL c m true->(s.kind=2\/s.initial=(k:Nat))->k∈bgL c i
 |0,i,m,s,k,hi,hn,_,_,_,_=>by omega
 | n+1,i,m,s,k,hi,hn,hm,hms,hk,e=>by
   obtain⟨q,hs⟩:=gE hi;have hb:=qH h hs;have hm0:=hm;rw[hb,Kk,M4]at hm |-;rcases hm with rfl|⟨j,hj,hm⟩
   ·rw[hs]at hms;cases hms;have hg:=bF h.toRight (aV hk).1;exact .inr ⟨k,hk,by rw[K0 e];exact xO h hg.2⟩
   ·have hg:=bF h.toRight (aV hj).1;split at hm
    ·rename_i e2;exact .inr ⟨j,hj,by rw[K0 e2];exact Dl h n j m s k (by omega) (by omega) hm hms hk e⟩
    ·simp at hm
theorem CN {c:ChD} (h:Full c) {i m:Nat} {s:StD} (hi:i<c.states.length) (hm:m∈bgL c i) (hs:c.states[m]? =some s) {k:Nat} (hk:k∈kidsL c m true):k∈bgL c i↔s.kind=2\/s.initial=(k:Nat):=by
 have hf:=h.few;refine⟨fun hb=> ?_,Dl h 40 i m s k hi (by omega) hm hs hk⟩;have hg:=bF h.toRight (aV hk).1;have hmi:=Ft h 40 i m hi (by omega) hm;rcases bg_from h 40 i k hi (by omega) hb with rfl|⟨p,q,h1,h2,h3,h4⟩
 ·omega
 ·have e1:=(dm.1 (aV h3).1).2;have e2:=(dm.1 (aV hk).1).2;have:p=m:=by omega
  subst this;rw[hs]at h2;cases h2;exact h4
theorem vi {c:ChD} (h:Full c) {i m:Nat} (hi:i<c.states.length) (hm:m∈bgL c i) (hne:m≠i): ∃p:Nat,aO c m=p/\p∈bgL c i:=by
 have hf:=h.few;rcases bg_from h 40 i m hi (by omega) hm with e|⟨p,q,h1,h2,h3,h4⟩
 ·exact absurd e hne
 ·exact⟨p,(dm.1 (aV h3).1).2,h1⟩
theorem Jo {c:ChD} (h:Full c) {i:Nat} (hi:i<c.states.length):(zL (bgL c i)).all (inZ c)=true:=by
 have hf:=h.few;rw[K2];intro x hx;obtain⟨k,hk,rfl⟩:=K9.1 hx;exact aW.2 (Ft h 40 i k hi (by omega) hk).2
def sbL (c:ChD) (i:Nat):List Nat:=sortL c (zL (bgL c i))
theorem H9 {c:ChD} (h:Full c) {i:Nat} (hi:i<c.states.length) {k:Nat} :k∈sbL c i↔k∈bgL c i:=by
 unfold sbL;rw[zA h.toRight (Jo h hi),K9];constructor
 ·rintro⟨j,hj,e⟩;have:j=k:=by omega
  exact this ▸ hj
 ·exact fun hk=>⟨k,hk,rfl⟩
end
section
open Go.RowKit
def manyI (act:List Int) (kids:List Nat):Nat:=(kids.filter fun k:Nat=>act.contains (k:Int)).length
theorem wq (act:List Int) (kids:List Nat):manyI act kids<=kids.length:=Kw ..
def qM (c:ChD) (act:List Int) (i:Nat) (s:StD):Bool:=
 !aS s&&(decide (s.parent<0)||act.contains s.parent)&&
  (if s.kind=1/\kidsL c i true≠[] then manyI act (kidsL c i true)==1 else if s.kind=2 then manyI act (kidsL c i true)==(kidsL c i true).length else true)
def tm (c:ChD) (act:List Int) (i:Int):Bool:=match at_ c i with
 |some s=>qM c act i.toNat s
 |none=>false
def tj (c:ChD) (act:List Int) (n:Nat):Bool:=match act[n]? with
 |some i=>(n==0||decide (act.getD (n-1) 0<i))&&tm c act i
 |none=>true
def j9 (c:ChD) (act:List Int):Int×Int:=match au (tj c act) act.length with
 |some n=>(1,max (act.getD n 0) (-1))
 |none=>if manyI act (kidsL c (-1) true)=1 then(0, -1) else(1, -1)
def lgB (c:ChD) (act:List Int):Bool:=(j9 c act).1==0
theorem xe {c:ChD} {act:List Int} :lgB c act=true↔(∀n,n<act.length->tj c act n=true)/\manyI act (kidsL c (-1) true)=1:=by
 unfold lgB j9;cases h:au (tj c act) act.length with
 | some n=>
   refine⟨fun e=>by simp at e,fun e=> ?_⟩;rw[az e.1]at h;cases h
 | none=>
   simp only;split
   ·rename_i e;exact⟨fun _=>⟨fun n hn=>dK h n hn,e⟩,fun _=>rfl⟩
   ·rename_i e;exact⟨fun e2=>by simp at e2,fun e2=>absurd e2.2 e⟩
/-! What is active at first -/
def iniN (c:ChD):Nat:=c.initial.toNat
theorem Full.topS {c:ChD} (h:Full c): ∃s,c.states[iniN c]? =some s/\c.initial=(iniN c:Nat)/\s.parent= -1/\(s.kind=1\/s.kind=2):=by
 have:=h.ini;unfold l7 at this;cases ha:at_ c c.initial with
 |none=>rw[ha]at this;simp at this
 | some s=>
   rw[ha]at this;unfold at_ at ha;split at ha
   ·rename_i h0;refine⟨s,ha,by unfold iniN;omega,?_⟩;simp only[dw,KY,LW,Lb]at this;exact⟨this.1,this.2⟩
   ·cases ha
def qF (c:ChD):List Nat:=(List.range c.states.length).filter fun k=>decide (k∈sbL c (iniN c))
theorem jD {c:ChD} (h:Full c) {k:Nat} :k∈qF c↔k∈bgL c (iniN c):=by
 obtain⟨s,hs,_⟩:=h.topS;have hi:=(KW.1 hs).1;unfold qF;rw[Kb,Kr,K6,H9 h hi];exact⟨fun e=>e.2,fun e=>⟨(Ft h 40 _ k hi (by have:=h.few;omega) e).2,e⟩⟩
theorem tP {l:List Nat} {k:Nat} :(zL l).contains (k:Int)=true↔k∈l:=by
 rw[K3];unfold zL;rw[K9];constructor
 ·rintro⟨j,h1,h2⟩;have:j=k:=by omega
  exact this ▸ h1
 ·exact fun h=>⟨k,h,rfl⟩
theorem filter_one {α:Type} [DecidableEq α] {p:α->Bool} {a:α} : ∀ {l:List α},l.Nodup->a∈l->(∀x∈l,p x=true↔x=a)->l.filter p=[a]
 |[],_,h,_=>by simp at h
 | x::l,hn,ha,hp=>by
   obtain⟨h1,h2⟩:=M1.1 hn;by_cases e:x=a
   ·subst e;rw[MO,K0 ((hp x (by simp)).2 rfl),Mm.2 fun y (hy:y∈l) hh=>h1 ((hp y (Lq _ hy)).1 hh ▸ hy)]
   ·rw[MO,KZ fun hh=>e ((hp x (by simp)).1 hh)];exact filter_one h2 ((Kk.1 ha).resolve_left (MJ e)) fun y hy=>hp y (Lq _ hy)
theorem Aw {p:Nat->Bool} {n:Nat} :((List.range n).filter p).Pairwise (· < ·):=List.Pairwise.sublist Lk List.pairwise_lt_range
theorem JK {c:ChD} {l:List Nat} (hr:l.Pairwise (· < ·)) (hf: ∀k∈l,tm c (zL l) k=true) (ht:manyI (zL l) (kidsL c (-1) true)=1):lgB c (zL l)=true:=by
 rw[xe];refine⟨fun n hn=> ?_,ht⟩;have hn':n<l.length:=by simpa[zL]using hn
 have e:(zL l)[n]? =some ((l[n]:Nat):Int):=by unfold zL;rw[K5,KV hn'];rfl
 unfold tj;rw[e];simp only[KY,Lb,LW,K6];refine⟨?_,hf _ (MI hn')⟩;by_cases h0:n=0
 ·exact .inl h0
 ·right;have:=LH.1 hr (n-1) n (by omega) hn' (by omega)
  have e2:(zL l).getD (n-1) 0=((l[n-1]'(by omega):Nat):Int):=by
   unfold zL;rw[Ko,K5,KV (by omega)];rfl
  rw[e2];omega
theorem Ga {l kids:List Nat} (h: ∀k∈kids,k∈l):manyI (zL l) kids=kids.length:=by
 unfold manyI;rw[List.filter_eq_self.2 fun k hk=>tP.2 (h k hk)]
theorem zV {l kids:List Nat} {j:Nat} (hn:kids.Nodup) (hj:j∈kids) (h: ∀k∈kids,k∈l↔k=j):manyI (zL l) kids=1:=by
 unfold manyI;rw[filter_one hn hj fun k hk=>tP.trans (h k hk)];rfl
theorem Iv {c:ChD} (h:Full c) {i m:Nat} {t:StD} (ht:c.states[i]? =some t) (hm0:aS t=false) (hm:m∈bgL c i): ∃s,c.states[m]? =some s/\aS s=false:=by
 have hi:=(KW.1 ht).1;rcases bg_from h 40 i m hi (by have:=h.few;omega) hm with rfl|⟨p,q,_,_,h3,_⟩
 ·exact⟨t,ht,hm0⟩
 ·obtain⟨_,s,h1,h2⟩:=aV h3;exact⟨s,h1,h2⟩
theorem y9 {c:ChD} (h:Full c):lgB c (zL (qF c))=true:=by
 obtain⟨t,ht,hini,htp,htk⟩:=h.topS;have hi:=(KW.1 ht).1
 have hm0:aS t=false:=by
  unfold aS;rcases htk with e|e<;>rw[e]<;>rfl
 refine JK Aw (fun k hk=> ?_) ?_
 ·have hb:=(jD h).1 hk;obtain⟨s,hs,hm⟩:=Iv h ht hm0 hb;unfold tm;rw[bH,hs];simp only[Lj];unfold qM;rw[hm,KY,KY];refine⟨⟨rfl,?_⟩,?_⟩
  ·rw[Lb,K6];by_cases e:k=iniN c
   ·subst e;rw[ht]at hs;cases hs;left;omega
   ·obtain⟨p,h1,h2⟩:=vi h hi hb e;rw[dh hs]at h1;right;rw[h1];exact tP.2 ((jD h).2 h2)
  ·have hk2: ∀j∈kidsL c k true,(j∈qF c↔s.kind=2\/s.initial=(j:Nat)):=fun j hj=>(jD h).trans (CN h hi hb hs hj);split
   ·rename_i e;rw[LW];rcases h.cases hs with⟨_,⟨e1,_⟩|⟨j,hj,e1⟩⟩|⟨e1,_⟩|⟨e1,_⟩|⟨e1,_⟩
    ·exact absurd e1 e.2
    ·exact zV (bI ..) hj fun x hx=>(hk2 x hx).trans ⟨fun q=>q.elim (fun q=>by omega) fun q=>by omega,fun q=> .inr (by rw[q];exact e1)⟩
    ·omega
    ·omega
    ·omega
   ·split
    ·rename_i e;rw[LW];exact Ga fun j hj=>(hk2 j hj).2 (.inl e)
    ·rfl
 ·refine zV (j:=iniN c) (bI ..) (C7 ht htp hm0) fun x hx=> ?_;rw[jD h];constructor
  ·intro hb;by_cases e:x=iniN c
   ·exact e
   ·obtain⟨p,h1,_⟩:=vi h hi hb e;have:=(dm.1 (aV hx).1).2;omega
  ·rintro rfl;exact xO h hi
/-! What begins is few -/
theorem IE {c:ChD} (h:Full c): ∀(n i m:Nat),i<c.states.length->c.states.length<=i+n->m∈bgL c i->m<c.states.length/\(m=i\/(i:Int)∈upL c m)
 |0,i,m,hi,hn,_=>by omega
 | n+1,i,m,hi,hn,hm=>by
   obtain⟨s,hs⟩:=gE hi;rw[qH h hs,Kk,M4]at hm;rcases hm with rfl|⟨k,hk,hm⟩
   ·exact⟨hi, .inl rfl⟩
   ·have hg:=bF h.toRight (aV hk).1;have hkp:=(dm.1 (aV hk).1).2;have hup:(i:Int)∈upL c k:=(cQ h.toRight (aW.2 hg.2)).2 (.inl hkp.symm);split at hm
    ·obtain⟨h1,h2⟩:=IE h n k m (by omega) (by omega) hm;refine⟨h1, .inr ?_⟩;rcases h2 with rfl|h2
     ·exact hup
     ·exact gh h.toRight (m+1) m k i (by omega) h2 hup
    ·simp at hm
theorem AX {c:ChD} (h:Full c): ∀(n i:Nat),i<c.states.length->c.states.length<=i+n->(bgL c i).Nodup
 |0,i,hi,hn=>by omega
 | n+1,i,hi,hn=>by
   obtain⟨s,hs⟩:=gE hi;rw[qH h hs,M1]
   have mem: ∀k∈kidsL c i true,∀m,m∈(if s.kind=2\/s.initial=(k:Nat) then bgL c k else [])->m<c.states.length/\(m=k\/(k:Int)∈upL c m):=fun k hk m hm=>by
    have hg:=bF h.toRight (aV hk).1;split at hm
    ·exact IE h n k m (by omega) (by omega) hm
    ·simp at hm
   refine⟨fun hm=> ?_,?_⟩
   ·obtain⟨k,hk,hm⟩:=M4.1 hm;have hg:=bF h.toRight (aV hk).1;obtain⟨q1,q2⟩:=mem k hk i hm;rcases q2 with e|e
    ·omega
    ·have:=jg h.toRight 40 _ _ e;omega
   ·have hnd:=bI c i true;rw[MB]at hnd;rw[MB,List.pairwise_flatMap];refine⟨fun k hk=> ?_,?_⟩
    ·have hg:=bF h.toRight (aV hk).1;rw[<-MB];split
     ·exact AX h n k (by omega) (by omega)
     ·exact .nil
    ·refine Np (R:=fun a b=>a≠b) ?_ hnd;intro k1 k2 hk1 hk2 hne m1 hm1 m2 hm2 e;subst e;obtain⟨q1,q2⟩:=mem k1 hk1 m1 hm1;obtain⟨_,q3⟩:=mem k2 hk2 m1 hm2;exact hne (wu h.toRight (aV hk1).1 (aV hk2).1 (m1+1) m1 (by omega) q1 q2 q3)
theorem Hu {c:ChD} (h:Full c) {i:Nat} (hi:i<c.states.length):(bgL c i).length<=32:=by
 have hf:=h.few;have:=(AX h 40 i hi (by omega)).length_le_of_subset (l₂:=List.range c.states.length) fun m hm=>Kr.2 (IE h 40 i m hi (by omega) hm).1;simp at this;omega
theorem C1 {c:ChD} (h:Full c) (i:Nat):(sbL c i).length<=32:=by
 have hf:=h.few
 have:=(qm h.toRight (zL (bgL c i))).length_le_of_subset (l₂:=List.range c.states.length) fun m hm=>by
  unfold sortL at hm;split at hm
  ·exact Kr.2 ((jG h.toRight m).1 (Kb.1 hm).1)
  ·simp at hm
 unfold sbL;simp at this;omega
end
section
open Go.RowKit
/-! The n-th ones -/
end
section
open Go.RowKit
def qt (c:ChD) (l:List Nat):List Nat:=(List.range c.states.length).filter fun k=>inL l (k:Int)
theorem wx {l:List Nat} {k:Nat} :inL l (k:Int)=true↔k∈l:=by
 rw[r7];constructor
 ·rintro⟨j,h1,h2⟩;have:j=k:=by omega
  exact this ▸ h1
 ·exact fun h=>⟨k,h,rfl⟩
/-! One more is none -/
end
section
open Go.RowKit
attribute [go_sem] seenSt seesR gS Row.see AV.see AV.see.seeL Option.getD_none Option.getD_some List.any_cons List.any_nil
def L6:List (Nat×Nat):=[(1000,1000),(1001,1001),(1002,1002),(1003,1003),(1004,1004),(1005,1005)]
attribute [go_sem] L6
theorem es2 {e:Nat->Bool} {a0 a1:Nat} (h: ∀k∈[a0,a1],e k=false):e a0=false/\e a1=false:=by simpa using h
theorem es3 {e:Nat->Bool} {a0 a1 a2:Nat} (h: ∀k∈[a0,a1,a2],e k=false):e a0=false/\e a1=false/\e a2=false:=by simpa using h
theorem es6 {e:Nat->Bool} {a0 a1 a2 a3 a4 a5:Nat} (h: ∀k∈[a0,a1,a2,a3,a4,a5],e k=false):e a0=false/\e a1=false/\e a2=false/\e a3=false/\e a4=false/\e a5=false:=by simpa using h
theorem es7 {e:Nat->Bool} {a0 a1 a2 a3 a4 a5 a6:Nat} (h: ∀k∈[a0,a1,a2,a3,a4,a5,a6],e k=false):e a0=false/\e a1=false/\e a2=false/\e a3=false/\e a4=false/\e a5=false/\e a6=false:=by simpa using h
section
variable {P:Program} {env:Env} {nt:Nat} {Q:Exit->St->Prop} {s:St}
theorem iL0 {o:Oper} {f:FuncId} {args:List AV} {rest:List Stp} {s1:St} {ft:Foot} {K:St->List Foot->Prop} {grown:Nat->Bool} {cs:(Nat->Nat)->List AV} {pre post:(Nat->Nat)->List (Nat×Row)} {res:(Nat->Nat)->AV} (L:List (Nat×Nat)) (hcon:ConI P env f (L.map (·.1)) grown cs pre post res) (k:aops P env rest s1 fun s2 fts=>K s2 (ft::fts)) (hc:bB env s.f o=some (f,args):=by exact rfl) (hk:(L.map (·.1)).Nodup:=by decide) (hr:(L.map (·.2)).Nodup:=by decide)
 (h1:AV.ren.renL (gin (eW L)) args=cs (vin L s.vs):=by simp only[go_sem]<;>rfl) (h2:xu L s.rows (pre (vin L s.vs)):=by simp only[go_sem,Kn]<;>trivial) (he:xv s L:=by simp only[go_sem,Kn]<;>trivial)
 (h3: ∀o:Nat->Nat,qJ L grown s.vs o (post o) (post fun _=>0) L:=by intro o;simp only[go_sem,behind,Kn]<;>trivial) (h4: ∀o:Nat->Nat,(res o).ren (gout (dS L) o (nout L grown s.vs))=(res fun _=>0).ren (gout (dS L) (fun _=>0) (nout L grown s.vs)):=by intro o;simp only[go_sem]<;>rfl)
 (h5:Is ((⟨(res fun _=>0).ren (gout (dS L) (fun _=>0) (nout L grown s.vs)),L.map (lay grown (behind L grown s.vs (post fun _=>0)))⟩:Out).app o.dst s) s1:=by simp only[go_sem,behind];exact iR) (h6:Is (⟨L.map (·.2),L.map (·.2),wrs (L.map (lay grown (behind L grown s.vs (post fun _=>0)))),wes (L.map (lay grown (behind L grown s.vs (post fun _=>0))))⟩:Foot) ft:=by simp only[go_sem,behind];exact iR):aops P env (⟨o, .always⟩::rest) s K:=iC L hc hcon hk hr h1 h2 he h3 h4 h5 h6 k
theorem iL {o:Oper} {f:FuncId} {args:List AV} {rest:List Stp} {s1:St} {ft:Foot} {K:St->List Foot->Prop} {grown:Nat->Bool} {cs:(Nat->Nat)->List AV} {pre post:(Nat->Nat)->List (Nat×Row)} {res:(Nat->Nat)->AV} (L:List (Nat×Nat)) (hcon:ConI P env f (L.map (·.1)) grown cs pre post res) (k:aops P env rest s1 fun s2 fts=>K s2 (ft::fts)) (hc:bB env s.f o=some (f,args):=by exact rfl) (hk:(L.map (·.1)).Nodup:=by decide) (hr:(L.map (·.2)).Nodup:=by decide)
 (h1:AV.ren.renL (gin (eW L)) args=cs (vin L s.vs):=by simp only[go_sem,F]<;>rfl) (h2:xu L s.rows (pre (vin L s.vs)):=by simp only[go_sem,F,Kn]<;>trivial) (he:xv s L:=by simp only[go_sem,F,Kn]<;>trivial)
 (h3: ∀o:Nat->Nat,qJ L grown s.vs o (post o) (post fun _=>0) L:=by intro o;simp only[go_sem,F,behind,Kn]<;>trivial) (h4: ∀o:Nat->Nat,(res o).ren (gout (dS L) o (nout L grown s.vs))=(res fun _=>0).ren (gout (dS L) (fun _=>0) (nout L grown s.vs)):=by intro o;simp only[go_sem,F]<;>rfl)
 (h5:Is ((⟨(res fun _=>0).ren (gout (dS L) (fun _=>0) (nout L grown s.vs)),L.map (lay grown (behind L grown s.vs (post fun _=>0)))⟩:Out).app o.dst s) s1:=by simp only[go_sem,F,behind];exact iR) (h6:Is (⟨L.map (·.2),L.map (·.2),wrs (L.map (lay grown (behind L grown s.vs (post fun _=>0)))),wes (L.map (lay grown (behind L grown s.vs (post fun _=>0))))⟩:Foot) ft:=by simp only[go_sem,F,behind];exact iR):aops P env (⟨o, .always⟩::rest) s K:=iC L hc hcon hk hr h1 h2 he h3 h4 h5 h6 k
theorem nC0 {c:Code} {s1:St} {row:Row} {e:List AV} (r r2 i j:Nat) (ty:TypeId) (sz:Nat) (h:awp P env nt c Q s1) (hr:Is (s.rows r) (some row):=by simp only[go_sem];exact iR) (hi:row.es[i]? =some e:=by exact rfl) (hj:e[j]? =some (.lit (.slice none 0 0)):=by exact rfl)
 (h1:Is ((s.renew r2 ⟨sz,[],ty,true⟩ false).setRow r { row with es:=row.es.set i (e.set j (.row r2 (s.vs r2+1))) }) s1:=by simp only[go_sem];exact iR) (hne:r2≠r:=by decide) (hsz:0<sz:=by decide) (hrz:row.sz≠0:=by exact LG _) (hp:row.pure=false:=by exact rfl):awp P env nt c Q s:=pa r r2 i j row e ty sz hne hsz hrz hp hi hj hr h1 h
theorem nC {c:Code} {s1:St} {row:Row} {e:List AV} (r r2 i j:Nat) (ty:TypeId) (sz:Nat) (h:awp P env nt c Q s1) (hr:Is (s.rows r) (some row):=by simp only[go_sem,F];exact iR) (hi:row.es[i]? =some e:=by exact rfl) (hj:e[j]? =some (.lit (.slice none 0 0)):=by exact rfl)
 (h1:Is ((s.renew r2 ⟨sz,[],ty,true⟩ false).setRow r { row with es:=row.es.set i (e.set j (.row r2 (s.vs r2+1))) }) s1:=by simp only[go_sem,F];exact iR) (hne:r2≠r:=by decide) (hsz:0<sz:=by decide) (hrz:row.sz≠0:=by exact LG _) (hp:row.pure=false:=by exact rfl):awp P env nt c Q s:=pa r r2 i j row e ty sz hne hsz hrz hp hi hj hr h1 h
theorem rI {p:Prop} (h:p:=by
 refine aN ?_;try simp only[bJ,ba, ↓reduceIte,Nat.reduceEqDiff,reduceCtorEq]
 refine qv ?_ ?_<;>simp only[go_sem,F,O5,Kn,PP,OU,AV.tuple.injEq,Nu,ne_eq]):p:=h
theorem rN {p:Prop} (h:p:=by refine GN ?_ ?_<;>simp only[go_sem,F,O5,Kn,PP,OU,AV.tuple.injEq,Nu,ne_eq]):p:=h
theorem qi {f:FuncId} {fn:Func} {c:Code} {n:Nat} {rs:Array ResultVar} {ids:List Nat} {grown:Nat->Bool} {cs:(Nat->Nat)->List AV} {pre post:(Nat->Nat)->List (Nat×Row)} {res:(Nat->Nat)->AV} (hf:P.funcs[f]? =some fn) (hc: ∀(args:Array Value) (w:World),(callFunc f args).run P w= .ok (.enter f args) w) (hn:fn.ntmps=n) (hr:fn.results=rs)
 (h: ∀vs esc,(∀k∈ids,esc k=false)->awp P env n c (Ha P rs.toList ids grown vs post res) ⟨fun t=>(cs vs).getD t .any,ag (pre vs),vs,esc⟩) (hb:fn.body=some c:=by exact rfl) (hl: ∀vs,(cs vs).length<=n:=by intro _;simp):ConI P env f ids grown cs pre post res:=⟨hc,fn,c,hf,hb,(by rw[hn];exact hl),(by rw[hn,hr];exact h)⟩
end
end
section
open Go.RowKit Go.Extern.Stop Go.Stop Go.Extern
end
section
open Go.RowKit
end
section
open Go.RowKit
abbrev smallCs (k:Int):Array Value:= #[.string ⟨#[97]⟩, .int .i64 1, .int .i64 (-1), .int .i64 k, .slice none 0 0, .slice none 0 0, .string ⟨#[98]⟩, .int .i64 1, .int .i64 0, .int .i64 (-1), .slice none 0 0, .slice none 0 0]
def xY (w:World) (g:Nat) (k:Int):Prop:= ∀i v,(smallCs k)[i]? =some v->w.cell? ⟨g,i,none⟩=some v
theorem xY.below {w w':World} {g:Nat} {k:Int} (h:xY w g k) (hb:Below w.heap.size w w'):xY w' g k:=fun i v hi=>cell_below (h i v hi) hb
theorem EnvOk.all {env:Env} {S:Nat->Nat->Prop} {w:World} (h:EnvOk env S w):EnvOk env (fun b _=>b<w.heap.size) w:=⟨h.inv,fun _ _ h=>h,fun g c hg=>by
 obtain⟨u,h1,h2,h3,h4⟩:=h.env g c hg
 exact⟨u,h1,h2,h.low _ _ h3,h4.mono fun b o hb=>⟨h.low _ _ hb, .rfl⟩⟩⟩
theorem EnvOk.belowA {env:Env} {w w':World} (h:EnvOk env (fun b _=>b<w.heap.size) w) (hb:Below w.heap.size w w'):EnvOk env (fun b _=>b<w'.heap.size) w':=⟨env.up _ _ h.inv hb,fun _ _ h=>h,fun g c hg=>by
 obtain⟨u,h1,h2,h3,h4⟩:=h.env g c hg
 exact⟨u,cell_below h1 hb,h2,Lz h3 hb.size,h4.mono fun b o (hbo:b<_)=>⟨Lz hbo hb.size,hb.stay hbo⟩⟩⟩
theorem HK {P:Program} {env:Env} {f:FuncId} {cs:List AV} {res:AV} {w:World} {vs:List Value} (h:Con P env f cs res) (hE:EnvOk env (fun b _=>b<w.heap.size) w) (hres: ∀e sz es,res≠ .own e sz es) (hv:RAs (fun b _=>b<w.heap.size) w vs cs):
 Calls P f vs.toArray w fun e w'=> ∃v,e= .returned v/\Below w.heap.size w w'/\EnvOk env (fun b _=>b<w'.heap.size) w'/\RV (fun b _=>b<w'.heap.size) w' v res:=by
 obtain⟨h1,h2⟩:=hv.at_;refine(h.calls w _ vs hE h1 h2).mono ?_;rintro e w' ⟨v,rfl,hb,S',_,_,hlt,hr⟩;refine⟨v,rfl,hb,hE.belowA hb,?_⟩
 have hr':RV S' w' v res:=by
  cases res with
  |own e sz es=>exact(hres e sz es rfl).elim
  |_=>exact hr
 exact hr'.mono fun b o hbo=>⟨hlt b o hbo, .rfl⟩
end
section
open Go.RowKit
end
section
open Go.RowKit
end
section
open Go.RowKit
structure ChEnv (env:Env) (a1 a8:Addr):Prop where
 e1:env 0=some (sentV a1)
 e8:env 7=some (sentV a8)
def gP (a1 a8:Addr) (l:List OpD) (vs ss:Int):AV:=if iQ l vs ss=0 then nilE else if iQ l vs ss=8 then errV (-1) (sentV a8) else errV (-1) (sentV a1)
theorem sB {l:List OpD} (vs ss:Int) (h:32<l.length):iQ l vs ss=8:=by unfold iQ;rw[K0 h]
theorem vd {l:List OpD} {vs ss:Int} (h: ¬32<l.length) (hh:hgt vs ss l 0=some 1):iQ l vs ss=0:=by unfold iQ;rw[KZ h,K0 hh]
theorem nT {l:List OpD} {vs ss:Int} (h: ¬32<l.length) (hh:hgt vs ss l 0≠some 1):iQ l vs ss=1:=by unfold iQ;rw[KZ h,KZ hh]
theorem uX {vs ss n:Int} {o:OpD} (h:bh vs ss n o=true): ¬aF o.kind<0/\ ¬n<aF o.kind/\mQ o vs ss=true:=by
 simp only[bh,KY,K6]at h;exact⟨by omega,by omega,h.2⟩
theorem qk {vs ss n:Int} {o:OpD} (h:bh vs ss n o=false):aF o.kind<0\/(¬aF o.kind<0/\n<aF o.kind)\/(¬aF o.kind<0/\ ¬n<aF o.kind/\mQ o vs ss=false):=by
 by_cases a:aF o.kind<0
 ·exact .inl a
 by_cases b:n<aF o.kind
 ·exact .inr (.inl ⟨a,b⟩)
 refine .inr (.inr ⟨a,b,?_⟩);have e1:0<=aF o.kind:=by omega
 have e2:aF o.kind<=n:=by omega
 simpa[bh,e1,e2]using h
theorem gC (env:Env) (a1 a8:Addr) (he:ChEnv env a1 a8) (l:List OpD) (vs ss:Int):Con prog env 296 [opsAV l,I vs,I ss] (gP a1 a8 l vs ss):=by
 have g1:=gX he.e1;have g8:=gX he.e8;refine qf func296 call296 ntmps296 results296 ?_;by_cases hl:32<l.length
 ·have hL:(32:Int)<l.length:=by omega
  rw[show gP a1 a8 l vs ss=errV (-1) (sentV a8) by unfold gP;rw[sB vs ss hl];rfl];have F:=ai hL g8;repeat (first|refine st ?_|refine cC (bT env _ a8) ?_)
  exact aR
 have hL: ¬(32:Int)<l.length:=by omega
 have F:=hL;repeat refine st ?_
 refine lp (D:=Nat×Int) (fun d _=>[(1,I vs),(2,I ss),(7,I d.2),(16,opsAV l),(17,I l.length),(18,I d.1)]) (fun _ _=>[]) (fun d _ _=>d.1<=l.length/\hgt vs ss l 0=hgt vs ss (l.drop d.1) d.2/\0<=d.2/\d.2<=d.1) (fun d=>l.length-d.1) (0,0) ⟨Ke _,rfl,OV _,OV _⟩ ?_;rintro⟨i,n⟩ ws esc ⟨hi,hh,h0,hn⟩;simp only at hi hh h0 hn;by_cases hlt:i<l.length
 ·obtain⟨o,ho,_⟩:=aQ hlt;obtain⟨up,no⟩:=nP ho hh;have k1:=nlt hlt;have k2:=aD hlt (by omega);have hop:=mP o.kind;cases hok:bh vs ss n o with
  | true=>
    obtain⟨b1,b2,b3⟩:=uX hok;have w1:IntKind.i64.wrap (1-aF o.kind)=1-aF o.kind:=ae (by omega) (by omega);have w2:IntKind.i64.wrap (n+(1-aF o.kind))=n+(1-aF o.kind):=ae (by omega) (by omega);have F:=ai9 k1 k2 ho bp.eq_1 b1 b2 b3 w1 w2;repeat refine tz2 (eZ env o.kind) (iK env o vs ss) ?_
    refine⟨(i+1,n+(1-aF o.kind)),⟨by simp only;omega,?_,by simp only;omega,by simp only;omega⟩,?_,?_,?_⟩
    ·simp only;rw[up hok]
     congr 1
     omega
    ·exact qe
    ·exact qe
    ·simp only;omega
  | false=>
    rw[show gP a1 a8 l vs ss=errV (-1) (sentV a1) by unfold gP;rw[nT hl (by rw[no hok];simp)];rfl];rcases qk hok with b1|⟨b1,b2⟩|⟨b1,b2,b3⟩
    ·have F:=ai6 k1 k2 ho bp.eq_1 b1 g1;repeat (first|refine st ?_|refine cC (eZ env o.kind) ?_|refine cC (iK env o vs ss) ?_|refine cC (bT env _ a1) ?_)
     exact aR
    ·have F:=ai7 k1 k2 ho bp.eq_1 b1 b2 g1;repeat (first|refine st ?_|refine cC (eZ env o.kind) ?_|refine cC (iK env o vs ss) ?_|refine cC (bT env _ a1) ?_)
     exact aR
    ·have F:=ai8 k1 k2 ho bp.eq_1 b1 b2 b3 g1;repeat (first|refine st ?_|refine cC (eZ env o.kind) ?_|refine cC (iK env o vs ss) ?_|refine cC (bT env _ a1) ?_)
     exact aR
 ·have k1: ¬(i:Int)< (l.length:Int):=by omega
  have hend:=r9 (by omega) hh;by_cases h1:n=1
  ·subst h1;rw[show gP a1 a8 l vs ss=nilE by unfold gP;rw[vd hl hend];rfl];have F:=ai k1 g1;repeat (first|refine st ?_|refine cC (bT env _ a1) ?_)
   exact aR
  ·rw[show gP a1 a8 l vs ss=errV (-1) (sentV a1) by unfold gP;rw[nT hl (by rw[hend];simpa using h1)];rfl];have k2:(n != 1)=true:=by simpa using h1
   have F:=ai3 k1 k2 g1;repeat (first|refine st ?_|refine cC (bT env _ a1) ?_)
   exact aR
theorem qW (env:Env) (l:List OpD) (vs ss:Int):Con prog env 233 [opsAV l,I vs,I ss] (I (iQ l vs ss)):=by
 refine qf func233 call233 ntmps233 results233 ?_;by_cases hl:32<l.length
 ·have hL:(32:Int)<l.length:=by omega
  rw[sB vs ss hl];have F:=hL;repeat refine st ?_
  exact aR
 have hL: ¬(32:Int)<l.length:=by omega
 have F:=hL;repeat refine st ?_
 refine lp (D:=Nat×Int) (fun d _=>[(0,opsAV l),(1,I vs),(2,I ss),(7,I d.2),(8,I d.1)]) (fun _ _=>[]) (fun d _ _=>d.1<=l.length/\hgt vs ss l 0=hgt vs ss (l.drop d.1) d.2/\0<=d.2/\d.2<=d.1) (fun d=>l.length-d.1) (0,0) ⟨Ke _,rfl,OV _,OV _⟩ ?_;rintro⟨i,n⟩ ws esc ⟨hi,hh,h0,hn⟩;simp only at hi hh h0 hn;by_cases hlt:i<l.length
 ·obtain⟨o,ho,_⟩:=aQ hlt;obtain⟨up,no⟩:=nP ho hh;have k1:=nlt hlt;have k2:=aD hlt (by omega);have hop:=mP o.kind;cases hok:bh vs ss n o with
  | true=>
    obtain⟨b1,b2,b3⟩:=uX hok;have w1:IntKind.i64.wrap (n-aF o.kind)=n-aF o.kind:=ae (by omega) (by omega);have w2:IntKind.i64.wrap (n-aF o.kind+1)=n-aF o.kind+1:=ae (by omega) (by omega);have F:=ai9 k1 k2 ho bp.eq_1 b1 b2 b3 w1 w2;repeat refine tz2 (eY env o.kind) (iI env o vs ss) ?_
    refine⟨(i+1,n-aF o.kind+1),⟨by simp only;omega,up hok,by simp only;omega,by simp only;omega⟩,?_,?_,?_⟩
    ·exact qe
    ·exact qe
    ·simp only;omega
  | false=>
    rw[nT hl (by rw[no hok];simp)];rcases qk hok with b1|⟨b1,b2⟩|⟨b1,b2,b3⟩
    ·have F:=ai5 k1 k2 ho bp.eq_1 b1;repeat refine tz2 (eY env o.kind) (iI env o vs ss) ?_
     exact aR
    ·have F:=ai6 k1 k2 ho bp.eq_1 b1 b2;repeat refine tz2 (eY env o.kind) (iI env o vs ss) ?_
     exact aR
    ·have F:=ai7 k1 k2 ho bp.eq_1 b1 b2 b3;repeat refine tz2 (eY env o.kind) (iI env o vs ss) ?_
     exact aR
 ·have k1: ¬(i:Int)< (l.length:Int):=by omega
  have hend:=r9 (by omega) hh;by_cases h1:n=1
  ·subst h1;rw[vd hl hend];have F:=k1;repeat refine st ?_
   exact aR
  ·rw[nT hl (by rw[hend];simpa using h1)];have k2:(n != 1)=true:=by simpa using h1
   have F:=ai k1 k2;repeat refine st ?_
   exact aR
end

end Go.Proofs.YtbjldjekgepopaaGreatDoor