/- Contracts of expressions' checks, of numbers among numbers: by the walk without memory. -/
import Derived.Test.YtbpmkofnfgdegaaGreatDoorM10
import Derived.Test.YtbpmkofnfgdegaaGreatDoorM6
import Derived.Test.YtbpmkofnfgdegaaGreatDoorM8
import Derived.Test.YtbpmkofnfgdegaaGreatDoorM9
import Derived.Test.YtbpmkofnfgdegaaGreatDoorM5
import Derived.WalkKit
import Derived.LaidEql
import Derived.Stop.Asserts
import Derived.RowKitTokens
set_option maxRecDepth 100000
set_option maxHeartbeats 8000000
set_option linter.unusedSimpArgs false
namespace Go.Proofs.YtbpmkofnfgdegaaGreatDoor
open Go.Proofs.Tryz
section
open Go.RowKit
def inZ (c:ChD) (i:Int):Bool:=decide (0<=i)&&decide (i<c.states.length)
def parZ (c:ChD) (i:Int):Int:=match at_ c i with
 | some s=>s.parent
 | none=> -1
theorem zas {c:ChD} {i:Int} :inZ c i=true↔0<=i/\i<c.states.length:=by
 unfold inZ;rw [Bool.and_eq_true,decide_eq_true_eq,decide_eq_true_eq]
theorem zay {c:ChD} {k:Nat} :inZ c k=true↔k<c.states.length:=by rw [zas]; omega
theorem zbd (c:ChD) (k:Nat):at_ c k=c.states[k]? :=by unfold at_; rw [if_pos (by omega),Int.toNat_natCast]
theorem zgR {c:ChD} {i:Int} (h:inZ c i=true): ∃k s,i=(k:Nat)/\c.states[k]? =some s/\at_ c i=some s:=by
 obtain⟨h1,h2⟩:=zas.1 h;have hk:i.toNat<c.states.length:=by omega
 refine⟨i.toNat,c.states[i.toNat],by omega,List.getElem?_eq_getElem hk, ?_⟩;unfold at_;rw [if_pos h1,List.getElem?_eq_getElem hk]
theorem zcA {c:ChD} (h:Right c) {i:Int} (hi:inZ c i=true): -1<=parZ c i/\parZ c i<i:=by
 obtain⟨k,s,rfl,h1,h2⟩:=zgR hi;unfold parZ;rw [h2];exact h.par k s h1
theorem zd9 {c:ChD} {k:Nat} {s:StD} (h:c.states[k]? =some s):parZ c k=s.parent:=by
 unfold parZ;rw [zbd,h]
/-! The way up -/
def upF (c:ChD):Nat->Int->List Int
 | 0,_=>[]
 | f+1,i=>if inZ c i=true then parZ c i::upF c f (parZ c i) else []
def upL (c:ChD) (i:Int):List Int:=upF c 40 i
theorem zd2 {c:ChD} {i:Int} (h:inZ c i=false) (f:Nat):upF c f i=[]:=by
 cases f with
 | zero=>rfl
 | succ f=>unfold upF; rw [h]; simp
theorem zog {c:ChD} (h:Right c): ∀(f g:Nat) (i:Int),i<f->i<g->upF c f i=upF c g i
 | 0,g,i,h1,h2=>by
   have:inZ c i=false:=by
    cases hh:inZ c i
    ·rfl
    ·have:=zas.1 hh; omega
   rw [zd2 this,zd2 this]
 | f+1,g,i,h1,h2=>by
   cases hh:inZ c i with
   | false=>rw [zd2 hh,zd2 hh]
   | true=>
     have h0:=(zas.1 hh).1;obtain⟨g',rfl⟩: ∃g',g=g'+1:=⟨g-1,by omega⟩;have:=zcA h hh;unfold upF;rw [hh];simp only [if_true];rw [zog h f g' (parZ c i) (by omega) (by omega)]
theorem zel {c:ChD} {i:Int} (h:inZ c i=false):upL c i=[]:=zd2 h _
theorem zkB {c:ChD} (h:Right c) {i:Int} (hi:inZ c i=true):upL c i=parZ c i::upL c (parZ c i):=by
 have hf:=h.few;have h2:=zas.1 hi;have h3:=zcA h hi;show upF c (39+1) i=parZ c i::upF c 40 (parZ c i);rw [show upF c (39+1) i=if inZ c i=true then parZ c i::upF c 39 (parZ c i) else [] from rfl,if_pos hi,zog h 39 40 _ (by omega) (by omega)]
theorem zhV {c:ChD} (h:Right c): ∀(f:Nat) (i:Int) (k:Int),k∈upF c f i-> -1<=k/\k<i
 | 0,i,k,hk=>by simp [upF] at hk
 | f+1,i,k,hk=>by
   cases hh:inZ c i with
   | false=>rw [zd2 hh] at hk; simp at hk
   | true=>
     have:=zcA h hh;unfold upF at hk;rw [hh] at hk;simp only [if_true,List.mem_cons] at hk;rcases hk with rfl | hk
     ·exact this
     ·have:=zhV h f _ k hk;omega
theorem zdg {c:ChD} (h:Right c) {i:Int} (hi:inZ c i=true) {k:Int} :k∈upL c i↔k=parZ c i\/k∈upL c (parZ c i):=by rw [zkB h hi,List.mem_cons]
theorem zof {c:ChD} : ∀(f:Nat) (i:Int),(upF c f i).length<=f
 | 0,i=>by simp [upF]
 | f+1,i=>by
   unfold upF;split
   ·have:=zof (c:=c) f (parZ c i); simp; omega
   ·simp
theorem zkA {c:ChD} (h:Right c): ∀(n:Nat) (i:Int),inZ c i=true->i<n-> -1∈upL c i
 | 0,i,hi,hn=>by have:=zas.1 hi; omega
 | n+1,i,hi,hn=>by
   rw [zdg h hi];have hp:=zcA h hi;by_cases e:parZ c i= -1
   ·exact .inl e.symm
   ·have h2:=zas.1 hi;exact .inr (zkA h n _ (zas.2 (by omega)) (by omega))
theorem zhU {c:ChD} (h:Right c): ∀(n:Nat) (i j k:Int),i<n->j∈upL c i->k∈upL c j->k∈upL c i
 | 0,i,j,k,hn,hj,hk=>by
   cases hh:inZ c i with
   | false=>rw [zel hh] at hj; simp at hj
   | true=>have:=zas.1 hh; omega
 | n+1,i,j,k,hn,hj,hk=>by
   cases hh:inZ c i with
   | false=>rw [zel hh] at hj; simp at hj
   | true=>
     rw [zdg h hh] at hj |-;have hp:=zcA h hh;rcases hj with rfl | hj
     ·exact .inr hk
     ·exact .inr (zhU h n _ j k (by omega) hj hk)
/-! What is above a state, as bits -/
def zo9 (c:ChD):Nat->Int->Nat
 | 0,_=>0
 | f+1,i=>if inZ c i=true then(if 0<=parZ c i then zo9 c f (parZ c i)||| 2^(parZ c i).toNat else 0) else 0
theorem zif {c:ChD} (h:Right c): ∀(f:Nat) (i:Int) (k:Nat),(zo9 c f i).testBit k=decide ((k:Int)∈upF c f i)
 | 0,i,k=>by simp [zo9,upF]
 | f+1,i,k=>by
   unfold zo9 upF;cases hh:inZ c i with
   | false=>simp
   | true=>
     simp only [if_true];have hp:=zcA h hh;by_cases e:0<=parZ c i
     ·rw [if_pos e,Nat.testBit_or,zif h f,Nat.testBit_two_pow];by_cases e2:(k:Int)=parZ c i
      ·have:(parZ c i).toNat=k:=by omega
       simp [e2,this]
      ·have: ¬(parZ c i).toNat=k:=by omega
       simp [e2,this]
     ·rw [if_neg e];have hm:parZ c i= -1:=by omega
      have hz:inZ c (-1)=false:=by
       cases hq:inZ c (-1)
       ·rfl
       ·have:=zas.1 hq; omega
      rw [hm,zd2 hz];simp
def mask (c:ChD) (i:Int):Nat:=zo9 c 40 i
theorem zig {c:ChD} (h:Right c) (i:Int) (k:Nat):(mask c i).testBit k=decide ((k:Int)∈upL c i):=zif h 40 i k
theorem zeV {c:ChD} (h:Right c) {i:Int} (hi:i<32):mask c i<2^32:=by
 apply Nat.lt_pow_two_of_testBit;intro k hk;rw [zig h];simp only [decide_eq_false_iff_not];intro hm;have:=zhV h 40 i k hm;omega
theorem zjr {c:ChD} (h:Right c) {i:Int} (hi:inZ c i=true):mask c i=if 0<=parZ c i then mask c (parZ c i)||| 2^(parZ c i).toNat else 0:=by
 apply Nat.eq_of_testBit_eq;intro k;have hp:=zcA h hi;rw [zig h,zkB h hi];by_cases e:0<=parZ c i
 ·rw [if_pos e,Nat.testBit_or,zig h,Nat.testBit_two_pow];by_cases e2:(k:Int)=parZ c i
  ·have:(parZ c i).toNat=k:=by omega
   simp [e2,this]
  ·have: ¬(parZ c i).toNat=k:=by omega
   simp [e2,this]
 ·rw [if_neg e];have hm:parZ c i= -1:=by omega
  have hz:inZ c (-1)=false:=by
   cases hq:inZ c (-1)
   ·rfl
   ·have:=zas.1 hq; omega
  rw [hm,zel hz];simp
theorem zbA {α β:Type} {f g:α->List β} : ∀ {l:List α},(∀x∈l,f x=g x)->l.flatMap f=l.flatMap g
 | [],_=>rfl
 | x::l,h=>by
   simp only [List.flatMap_cons];rw [h x (by simp),zbA fun y hy=>h y (by simp [hy])]
/-! The walk -/
def zhT (c:ChD):Nat->Int->List Nat
 | 0,_=>[]
 | f+1,i=>(kidsL c i false).flatMap fun k=>k::zhT c f k
def walkL (c:ChD) (i:Int):List Nat:=zhT c 40 i
theorem zcH {c:ChD} {i:Int} {k:Nat} :k∈kidsL c i false↔k<c.states.length/\parZ c k=i:=by
 unfold kidsL zaY;rw [List.mem_filter,List.mem_range];constructor
 ·rintro⟨h1,h2⟩;obtain⟨s,hs⟩: ∃s,c.states[k]? =some s:=⟨c.states[k],List.getElem?_eq_getElem h1⟩;refine⟨h1, ?_⟩;unfold zbN at h2;rw [hs] at h2;rw [zd9 hs];simpa using h2
 ·rintro⟨h1,h2⟩;obtain⟨s,hs⟩: ∃s,c.states[k]? =some s:=⟨c.states[k],List.getElem?_eq_getElem h1⟩;refine⟨h1, ?_⟩;unfold zbN;rw [hs];rw [zd9 hs] at h2;simp [h2]
theorem zbs (c:ChD) (i:Int) (real:Bool):(kidsL c i real).Nodup:=List.Nodup.sublist List.filter_sublist List.nodup_range
theorem zao {c:ChD} {i:Int} {k:Nat} (h:k∈kidsL c i true):k∈kidsL c i false/\ ∃s,c.states[k]? =some s/\zaI s=false:=by
 unfold kidsL zaY at h |-;rw [List.mem_filter] at h |-;obtain⟨h1,h2⟩:=h;unfold zbN at h2 |-;cases hs:c.states[k]? with
 | none=>rw [hs] at h2; cases h2
 | some s=>
   rw [hs] at h2;simp at h2 |-;exact⟨⟨by simpa using h1,h2.1⟩,h2.2⟩
theorem zaG {c:ChD} (h:Right c) {i:Int} {k:Nat} (hk:k∈kidsL c i false):i<k/\k<c.states.length:=by
 obtain⟨h1,h2⟩:=zcH.1 hk;have:=zcA h (zay.2 h1);omega
theorem zoa {c:ChD} (h:Right c): ∀(f g:Nat) (i:Int),(c.states.length:Int)<=i+f->(c.states.length:Int)<=i+g->zhT c f i=zhT c g i:=by
 have none: ∀(g:Nat) (i:Int),(c.states.length:Int)<=i->zhT c g i=[]:=fun g i hi=>by
  cases g with
  | zero=>rfl
  | succ g=>
    unfold zhT;have:kidsL c i false=[]:=List.eq_nil_iff_forall_not_mem.2 fun k hk=>by have:=zaG h hk; omega
    rw [this];rfl
 intro f
 induction f with
 | zero=>intro g i h1 h2; rw [none g i (by omega)]; rfl
 | succ f ih=>
   intro g i h1 h2;cases g with
   | zero=>rw [none (f+1) i (by omega)]; rfl
   | succ g=>
     unfold zhT;apply zbA;intro k hk;have:=zaG h hk;rw [ih g k (by omega) (by omega)]
theorem walk_eq {c:ChD} (h:Right c) {i:Int} (_hi: -1<=i):walkL c i=(kidsL c i false).flatMap fun k=>k::walkL c k:=by
 have hf:=h.few;show (kidsL c i false).flatMap (fun k=>k::zhT c 39 k)=_;apply zbA;intro k hk;have:=zaG h hk;rw [show zhT c 39 k=walkL c k from zoa h 39 40 k (by omega) (by omega)]
theorem zdH {c:ChD} (h:Right c): ∀(n:Nat) (i:Int) (m:Nat), -1<=i->(c.states.length:Int)<=i+n->(m∈walkL c i↔m<c.states.length/\i∈upL c m)
 | 0,i,m,hi,hn=>by
   rw [walk_eq h hi];have:kidsL c i false=[]:=List.eq_nil_iff_forall_not_mem.2 fun k hk=>by have:=zaG h hk; omega
   rw [this];simp only [List.flatMap_nil,List.not_mem_nil,false_iff,not_and];intro h1 h2;have:=zhV h 40 m i h2;omega
 | n+1,i,m,hi,hn=>by
   rw [walk_eq h hi,List.mem_flatMap];constructor
   ·rintro⟨k,hk,hm⟩;have hg:=zaG h hk;obtain⟨k1,k2⟩:=zcH.1 hk;rcases List.mem_cons.1 hm with rfl | hm
    ·exact⟨k1,(zdg h (zay.2 k1)).2 (.inl k2.symm)⟩
    ·obtain⟨m1,m2⟩:=(zdH h n k m (by omega) (by omega)).1 hm;refine⟨m1,zhU h 40 m k i (by have:=h.few; omega) m2 ((zdg h (zay.2 k1)).2 (.inl k2.symm))⟩
   ·rintro⟨h1,h2⟩
    have key: ∀(d:Nat) (m:Nat),m<d->m<c.states.length->i∈upL c m-> ∃k∈kidsL c i false,m=k\/(k:Int)∈upL c m:=fun d=>by
     induction d with
     | zero=>intro m hd; omega
     | succ d ih=>
       intro m hd hm hu;have hin:=zay.2 hm;rcases (zdg h hin).1 hu with e | e
       ·exact⟨m,zcH.2 ⟨hm,e.symm⟩, .inl rfl⟩
       ·have hp:=zcA h hin
        have h0:0<=parZ c m:=by
         rcases Int.lt_or_le (parZ c m) 0 with q | q
         ·have hz:inZ c (parZ c m)=false:=by
           cases hq:inZ c (parZ c m)
           ·rfl
           ·have:=zas.1 hq; omega
          rw [zel hz] at e; simp at e
         ·exact q
        obtain⟨p,hpe⟩: ∃p:Nat,parZ c m=p:=⟨(parZ c m).toNat,by omega⟩;rw [hpe] at e hp;obtain⟨k,hk,hk2⟩:=ih p (by omega) (by omega) e;refine⟨k,hk, .inr ((zdg h hin).2 ?_)⟩;rw [hpe];rcases hk2 with rfl | hk2
        ·exact .inl rfl
        ·exact .inr hk2
    obtain⟨k,hk,hk2⟩:=key (m+1) m (by omega) h1 h2;have hg:=zaG h hk;refine⟨k,hk,List.mem_cons.2 ?_⟩;rcases hk2 with e | e
    ·exact .inl e
    ·exact .inr ((zdH h n k m (by omega) (by omega)).2 ⟨h1,e⟩)
theorem zej {c:ChD} (h:Right c) (m:Nat):m∈walkL c (-1)↔m<c.states.length:=by
 rw [zdH h 40 (-1) m (by omega) (by have:=h.few; omega)];exact⟨fun h=>h.1,fun hm=>⟨hm,zkA h (m+1) m (zay.2 hm) (by omega)⟩⟩
theorem zpn {c:ChD} (h:Right c) {i:Int} {k1 k2:Nat} (h1:k1∈kidsL c i false) (h2:k2∈kidsL c i false): ∀(d m:Nat),m<d->m<c.states.length->(m=k1\/(k1:Int)∈upL c m)->(m=k2\/(k2:Int)∈upL c m)->k1=k2:=by
 obtain⟨a1,b1⟩:=zcH.1 h1;obtain⟨a2,b2⟩:=zcH.1 h2
 have no: ∀ {x y:Nat},x<c.states.length->parZ c x=i->y<c.states.length->parZ c y=i-> ¬(y:Int)∈upL c x:=fun {x y} hx px hy py hm=>by
  have q1:=zcA h (zay.2 hx);have q2:=zcA h (zay.2 hy);rcases (zdg h (zay.2 hx)).1 hm with e | e
  ·omega
  ·have:=zhV h 40 _ _ e;omega
 intro d
 induction d with
 | zero=>intro m hd; omega
 | succ d ih=>
   intro m hd hm e1 e2;rcases e1 with rfl | e1
   ·rcases e2 with rfl | e2
    ·rfl
    ·exact absurd e2 (no a1 b1 a2 b2)
   ·rcases e2 with rfl | e2
    ·exact absurd e1 (no a2 b2 a1 b1)
    ·have hin:=zay.2 hm;have hp:=zcA h hin
     have h0:0<=parZ c m:=by
      rcases Int.lt_or_le (parZ c m) 0 with q | q
      ·have hz:inZ c (parZ c m)=false:=by
        cases hq:inZ c (parZ c m)
        ·rfl
        ·have:=zas.1 hq; omega
       rw [zdg h hin,zel hz] at e1;rcases e1 with e | e
       ·omega
       ·simp at e
      ·exact q
     obtain⟨p,hpe⟩: ∃p:Nat,parZ c m=p:=⟨(parZ c m).toNat,by omega⟩;rw [zdg h hin,hpe] at e1 e2;rw [hpe] at hp;exact ih p (by omega) (by omega) (by rcases e1 with e | e; exact .inl (by omega); exact .inr e) (by rcases e2 with e | e; exact .inl (by omega); exact .inr e)
theorem zdG {c:ChD} (h:Right c): ∀(n:Nat) (i:Int), -1<=i->(c.states.length:Int)<=i+n->(walkL c i).Nodup
 | 0,i,hi,hn=>by
   rw [walk_eq h hi];have:kidsL c i false=[]:=List.eq_nil_iff_forall_not_mem.2 fun k hk=>by have:=zaG h hk; omega
   rw [this];simp
 | n+1,i,hi,hn=>by
   rw [walk_eq h hi]
   have mem: ∀k∈kidsL c i false,∀m,m∈k::walkL c k->m<c.states.length/\(m=k\/(k:Int)∈upL c m):=fun k hk m hm=>by
    have hg:=zaG h hk;rcases List.mem_cons.1 hm with rfl | hm
    ·exact⟨hg.2, .inl rfl⟩
    ·obtain⟨q1,q2⟩:=(zdH h n k m (by omega) (by omega)).1 hm;exact⟨q1, .inr q2⟩
   have hnd:=zbs c i false;rw [List.nodup_iff_pairwise_ne] at hnd;rw [List.nodup_iff_pairwise_ne,List.pairwise_flatMap];refine⟨fun k hk=> ?_, ?_⟩
   ·rw [<-List.nodup_iff_pairwise_ne,List.nodup_cons];have hg:=zaG h hk;refine⟨fun hm=> ?_,zdG h n k (by omega) (by omega)⟩;have:=(zdH h n k k (by omega) (by omega)).1 hm;have:=zhV h 40 _ _ this.2;omega
   ·refine List.Pairwise.imp_of_mem (R:=fun a b=>a≠b) ?_ hnd;intro k1 k2 hk1 hk2 hne m1 hm1 m2 hm2 e;subst e;obtain⟨q1,q2⟩:=mem k1 hk1 m1 hm1;obtain⟨_,q3⟩:=mem k2 hk2 m1 hm2;exact hne (zpn h hk1 hk2 (m1+1) m1 (by omega) q1 q2 q3)
/-! Sorting by the walk -/
def sortL (c:ChD) (l:List Int):List Nat:=if l.all (inZ c)=true then(walkL c (-1)).filter fun k=>l.contains (k:Int) else []
theorem zqT {c:ChD} (h:Right c) {l:List Int} (hl:l.all (inZ c)=true) {k:Nat} :k∈sortL c l↔(k:Int)∈l:=by
 unfold sortL;rw [if_pos hl,List.mem_filter,zej h];simp only [List.contains_iff_mem];refine⟨fun h=>h.2,fun hk=>⟨zay.1 (List.all_eq_true.1 hl _ hk),hk⟩⟩
theorem zhf {c:ChD} (h:Right c) (l:List Int):(sortL c l).Nodup:=by
 unfold sortL;split
 ·exact List.Nodup.sublist List.filter_sublist (zdG h 40 (-1) (by omega) (by have:=h.few; omega))
 ·simp
end
section
open Go.RowKit
structure Full (c:ChD):Prop extends Right c where
 st: ∀(k:Nat) (s:StD),c.states[k]? =some s->zaq c k s=true
 tr: ∀(k:Nat) (t:TrD),c.trans[k]? =some t->zck c t=true
 ini:topB c=true
 ftr:c.trans.length<=64
theorem full_of {c:ChD} (h:(chk c).1=0):Full c:=by
 refine⟨zfD h, ?_, ?_, ?_, ?_⟩<;>
 ·unfold chk at h;split at h
  ·simp at h
  rename_i h1;split at h
  ·simp at h
  split at h
  ·simp at h
  split at h
  ·simp at h
  rename_i h3;split at h
  ·simp at h
  rename_i h4;split at h
  ·simp at h
  rename_i h5
  first
   |(intro k s hs
     have:=zbc h3 k (List.getElem?_eq_some_iff.1 hs).1;unfold zfy at this;rw [hs] at this
     exact this)
   |(intro k t ht
     have:=zbc h5 k (List.getElem?_eq_some_iff.1 ht).1;unfold ziG at this;rw [ht] at this
     exact this)
   |(simpa using h4)
   | omega
theorem Full.shape {c:ChD} (h:Full c) {k:Nat} {s:StD} (hs:c.states[k]? =some s):zap c k s=true:=by
 have:=h.st k s hs;simp only [zaq,Bool.and_eq_true] at this;exact this.1.1.2
theorem zio {l:List Nat} {n:Int} :inL l n=true↔ ∃k∈l,(k:Int)=n:=by
 unfold inL;rw [List.any_eq_true];simp
theorem Full.cases {c:ChD} (h:Full c) {k:Nat} {s:StD} (hs:c.states[k]? =some s):
 (s.kind=1/\((kidsL c k true=[]/\s.initial= -1)\/ ∃j∈kidsL c k true,s.initial=(j:Nat)))\/(s.kind=2/\s.initial= -1/\kidsL c k true≠[]/\ ∀j∈kidsL c k true,zaU c j=true)\/
  (s.kind=3/\kidsL c k false=[]/\s.initial= -1)\/((s.kind=4\/s.kind=5)/\kidsL c k false=[]/\zaO c s=true/\inL (kidsL c s.parent true) s.initial=true):=by
 have hb:=h.shape hs;unfold zap at hb;split at hb
 ·rename_i e;refine .inl ⟨e, ?_⟩;split at hb
  ·rename_i e2;exact .inl ⟨e2,by simpa using hb⟩
  ·obtain⟨j,hj,e3⟩:=zio.1 hb;exact .inr ⟨j,hj,e3.symm⟩
 split at hb
 ·rename_i e;simp only [Bool.and_eq_true,decide_eq_true_eq,beq_iff_eq,List.all_eq_true] at hb;exact .inr (.inl ⟨e,hb.2,fun e2=>by rw [e2] at hb; simp at hb,hb.1.1⟩)
 split at hb
 ·rename_i e;simp only [Bool.and_eq_true,beq_iff_eq] at hb;exact .inr (.inr (.inl ⟨e,by simpa using hb.1.1.1,hb.1.2⟩))
 split at hb
 ·rename_i e;simp only [Bool.and_eq_true,beq_iff_eq] at hb;exact .inr (.inr (.inr ⟨e,by simpa using hb.1.1.1.1,hb.1.1.1.2,hb.1.1.2⟩))
 ·cases hb
theorem zk1 {c:ChD} {i:Int} (h:kidsL c i false=[]):kidsL c i true=[]:=by
 apply List.eq_nil_iff_forall_not_mem.2;intro k hk;have:=(zao hk).1;rw [h] at this;simp at this
abbrev zL (l:List Nat):List Int:=l.map fun k:Nat=>(k:Int)
/-! What begins with a state -/
def bgF (c:ChD):Nat->Nat->List Nat
 | 0,_=>[]
 | f+1,i=>i::match c.states[i]? with
   | some s=>if s.kind=1/\0<=s.initial then bgF c f s.initial.toNat else if s.kind=2 then(kidsL c i true).flatMap (bgF c f) else []
   | none=>[]
def bgL (c:ChD) (i:Nat):List Nat:=bgF c 40 i
theorem zlb {c:ChD} (h:Full c) {i:Nat} {s:StD} (hs:c.states[i]? =some s) (h1:s.kind=1) (h0:0<=s.initial): ∃j∈kidsL c i true,s.initial=(j:Nat):=by
 rcases h.cases hs with⟨_,⟨_,e⟩ | e⟩ | ⟨e,_⟩ | ⟨e,_⟩ | ⟨e,_⟩
 ·omega
 ·exact e
 ·omega
 ·omega
 ·omega
theorem zlA {c:ChD} (h:Full c): ∀(f g:Nat) (i:Nat),i<c.states.length->c.states.length<=i+f->c.states.length<=i+g->bgF c f i=bgF c g i
 | 0,g,i,h0,h1,h2=>by omega
 | f+1,0,i,h0,h1,h2=>by omega
 | f+1,g+1,i,h0,h1,h2=>by
   unfold bgF
   congr 1
   cases hs:c.states[i]? with
   | none=>rfl
   | some s=>
     simp only;split
     ·rename_i e;obtain⟨j,hj,e2⟩:=zlb h hs e.1 e.2;have:=zaG h.toRight (zao hj).1;rw [e2,Int.toNat_natCast];exact zlA h f g j (by omega) (by omega) (by omega)
     ·split
      ·apply zbA;intro k hk;have:=zaG h.toRight (zao hk).1;exact zlA h f g k (by omega) (by omega) (by omega)
      ·rfl
theorem zr0 (c:ChD) (f i:Nat):bgF c (f+1) i=i::match c.states[i]? with
 | some s=>if s.kind=1/\0<=s.initial then bgF c f s.initial.toNat else if s.kind=2 then(kidsL c i true).flatMap (bgF c f) else []
 | none=>[]:=rfl
theorem ztV {c:ChD} (h:Full c) {i:Nat} {s:StD} (hs:c.states[i]? =some s):bgL c i=i::if s.kind=1/\0<=s.initial then bgL c s.initial.toNat else if s.kind=2 then(kidsL c i true).flatMap (bgL c) else []:=by
 have hi:=(List.getElem?_eq_some_iff.1 hs).1;have hf:=h.few;have e0:=zr0 c 39 i;rw [hs] at e0;simp only at e0
 have e1: ∀j,j∈kidsL c i true->bgF c 39 j=bgL c j:=fun j hj=>by
  have:=zaG h.toRight (zao hj).1;exact zlA h 39 40 j (by omega) (by omega) (by omega)
 refine Eq.trans e0 (congrArg (List.cons i) ?_);by_cases q:s.kind=1/\0<=s.initial
 ·rw [if_pos q,if_pos q];obtain⟨j,hj,e2⟩:=zlb h hs q.1 q.2;rw [e2,Int.toNat_natCast];exact e1 j hj
 ·rw [if_neg q,if_neg q];by_cases q2:s.kind=2
  ·rw [if_pos q2,if_pos q2];exact zbA e1
  ·rw [if_neg q2,if_neg q2]
theorem zfm {α β:Type} {f:α->List β} : ∀ {l:List α},(∀x∈l,f x=[])->l.flatMap f=[]
 | [],_=>rfl
 | x::l,h=>by
   simp only [List.flatMap_cons];rw [h x (by simp),zfm fun y hy=>h y (by simp [hy])];rfl
theorem flatMap_one {α β:Type} {f:α->List β} {a:α} : ∀ {l:List α},l.Nodup->a∈l->(∀x∈l,x≠a->f x=[])->l.flatMap f=f a
 | [],_,ha,_=>by simp at ha
 | x::l,hn,ha,h=>by
   obtain⟨h1,h2⟩:=List.nodup_cons.1 hn;simp only [List.flatMap_cons];by_cases e:x=a
   ·subst e;rw [zfm fun y hy=>h y (by simp [hy]) fun e=>h1 (e ▸ hy),List.append_nil]
   ·rw [h x (by simp) e,List.nil_append];exact flatMap_one h2 ((List.mem_cons.1 ha).resolve_left (Ne.symm e)) fun y hy=>h y (by simp [hy])
theorem zft {c:ChD} (h:Full c) {i:Nat} {s:StD} (hs:c.states[i]? =some s):bgL c i=i::(kidsL c i true).flatMap fun k=>if s.kind=2\/s.initial=(k:Nat) then bgL c k else []:=by
 rw [ztV h hs]
 congr 1
 rcases h.cases hs with⟨e,⟨e1,e2⟩ | ⟨j,hj,e2⟩⟩ | ⟨e,e1,_⟩ | ⟨e,e1,_⟩ | ⟨e,e1,_⟩
 ·rw [e1,if_neg (by omega),if_neg (by omega)];rfl
 ·rw [if_pos ⟨e,by omega⟩,e2,Int.toNat_natCast];rw [flatMap_one (zbs c i true) hj fun x _ hne=>by rw [if_neg]; omega];rw [if_pos (.inr rfl)]
 ·rw [if_neg (by omega),if_pos e];apply zbA;intro k _;rw [if_pos (.inl e)]
 ·rw [if_neg (by omega),if_neg (by omega),zk1 e1];rfl
 ·rw [if_neg (by omega),if_neg (by omega),zk1 e1];rfl
theorem zrZ {c:ChD} (h:Full c): ∀(n i m:Nat),i<c.states.length->c.states.length<=i+n->m∈bgL c i->i<=m/\m<c.states.length
 | 0,i,m,hi,hn,_=>by omega
 | n+1,i,m,hi,hn,hm=>by
   obtain⟨s,hs⟩: ∃s,c.states[i]? =some s:=⟨c.states[i],List.getElem?_eq_getElem hi⟩;rw [zft h hs,List.mem_cons,List.mem_flatMap] at hm;rcases hm with rfl | ⟨k,hk,hm⟩
   ·exact⟨Nat.le_refl _,hi⟩
   ·have hg:=zaG h.toRight (zao hk).1;split at hm
    ·have:=zrZ h n k m (by omega) (by omega) hm;omega
    ·simp at hm
theorem zlz {c:ChD} (h:Full c) {i:Nat} (hi:i<c.states.length):i∈bgL c i:=by
 obtain⟨s,hs⟩: ∃s,c.states[i]? =some s:=⟨c.states[i],List.getElem?_eq_getElem hi⟩;rw [zft h hs];exact List.mem_cons_self ..
theorem bg_from {c:ChD} (h:Full c): ∀(n i m:Nat),i<c.states.length->c.states.length<=i+n->m∈bgL c i->m=i\/ ∃p s,p∈bgL c i/\c.states[p]? =some s/\m∈kidsL c p true/\(s.kind=2\/s.initial=(m:Nat))
 | 0,i,m,hi,hn,_=>by omega
 | n+1,i,m,hi,hn,hm=>by
   obtain⟨s,hs⟩: ∃s,c.states[i]? =some s:=⟨c.states[i],List.getElem?_eq_getElem hi⟩;have hb:=zft h hs;rw [hb,List.mem_cons,List.mem_flatMap] at hm;rcases hm with rfl | ⟨k,hk,hm⟩
   ·exact .inl rfl
   ·have hg:=zaG h.toRight (zao hk).1;split at hm
    ·rename_i e
     have sub: ∀x,x∈bgL c k->x∈bgL c i:=fun x hx=>by
      rw [hb,List.mem_cons,List.mem_flatMap];exact .inr ⟨k,hk,by rw [if_pos e]; exact hx⟩
     rcases bg_from h n k m (by omega) (by omega) hm with rfl | ⟨p,q,h1,h2⟩
     ·exact .inr ⟨i,s,zlz h hi,hs,hk,e⟩
     ·exact .inr ⟨p,q,sub p h1,h2⟩
    ·simp at hm
theorem zqq {c:ChD} (h:Full c): ∀(n i m:Nat) (s:StD) (k:Nat),i<c.states.length->c.states.length<=i+n->m∈bgL c i->c.states[m]? =some s->k∈kidsL c m true->(s.kind=2\/s.initial=(k:Nat))->k∈bgL c i
 | 0,i,m,s,k,hi,hn,_,_,_,_=>by omega
 | n+1,i,m,s,k,hi,hn,hm,hms,hk,e=>by
   obtain⟨q,hs⟩: ∃q,c.states[i]? =some q:=⟨c.states[i],List.getElem?_eq_getElem hi⟩;have hb:=zft h hs;have hm0:=hm;rw [hb,List.mem_cons,List.mem_flatMap] at hm |-;rcases hm with rfl | ⟨j,hj,hm⟩
   ·rw [hs] at hms;cases hms;have hg:=zaG h.toRight (zao hk).1;exact .inr ⟨k,hk,by rw [if_pos e]; exact zlz h hg.2⟩
   ·have hg:=zaG h.toRight (zao hj).1;split at hm
    ·rename_i e2;exact .inr ⟨j,hj,by rw [if_pos e2]; exact zqq h n j m s k (by omega) (by omega) hm hms hk e⟩
    ·simp at hm
theorem znS {c:ChD} (h:Full c) {i m:Nat} {s:StD} (hi:i<c.states.length) (hm:m∈bgL c i) (hs:c.states[m]? =some s) {k:Nat} (hk:k∈kidsL c m true):k∈bgL c i↔s.kind=2\/s.initial=(k:Nat):=by
 have hf:=h.few;refine⟨fun hb=> ?_,zqq h 40 i m s k hi (by omega) hm hs hk⟩;have hg:=zaG h.toRight (zao hk).1;have hmi:=zrZ h 40 i m hi (by omega) hm;rcases bg_from h 40 i k hi (by omega) hb with rfl | ⟨p,q,h1,h2,h3,h4⟩
 ·omega
 ·have e1:=(zcH.1 (zao h3).1).2;have e2:=(zcH.1 (zao hk).1).2;have:p=m:=by omega
  subst this;rw [hs] at h2;cases h2;exact h4
theorem zkm {c:ChD} (h:Full c) {i m:Nat} (hi:i<c.states.length) (hm:m∈bgL c i) (hne:m≠i): ∃p:Nat,parZ c m=p/\p∈bgL c i:=by
 have hf:=h.few;rcases bg_from h 40 i m hi (by omega) hm with e | ⟨p,q,h1,h2,h3,h4⟩
 ·exact absurd e hne
 ·exact⟨p,(zcH.1 (zao h3).1).2,h1⟩
theorem ztW {c:ChD} (h:Full c) {i:Nat} (hi:i<c.states.length):(zL (bgL c i)).all (inZ c)=true:=by
 have hf:=h.few;rw [List.all_eq_true];intro x hx;obtain⟨k,hk,rfl⟩:=List.mem_map.1 hx;exact zay.2 (zrZ h 40 i k hi (by omega) hk).2
def sbL (c:ChD) (i:Nat):List Nat:=sortL c (zL (bgL c i))
theorem zoC {c:ChD} (h:Full c) {i:Nat} (hi:i<c.states.length) {k:Nat} :k∈sbL c i↔k∈bgL c i:=by
 unfold sbL;rw [zqT h.toRight (ztW h hi),List.mem_map];constructor
 ·rintro⟨j,hj,e⟩;have:j=k:=by omega
  exact this ▸ hj
 ·exact fun hk=>⟨k,hk,rfl⟩
theorem zlT {c:ChD} (h:Full c) {i:Nat} {s:StD} (hs:c.states[i]? =some s) (hm:zaI s=true):sbL c i=[i]:=by
 have hi:=(List.getElem?_eq_some_iff.1 hs).1
 have hb:bgL c i=[i]:=by
  rw [zft h hs];unfold zaI at hm;simp only [Bool.or_eq_true,beq_iff_eq] at hm;rcases h.cases hs with⟨e,_⟩ | ⟨e,_⟩ | ⟨e,_⟩ | ⟨e,e1,_⟩
  ·omega
  ·omega
  ·omega
  ·rw [zk1 e1]; rfl
 have hn:=zhf h.toRight (zL (bgL c i));have hmem: ∀k,k∈sbL c i↔k=i:=fun k=>by rw [zoC h hi,hb,List.mem_singleton]
 have hn:(sbL c i).Nodup:=hn;generalize sbL c i=l at hn hmem
 match l,hn,hmem with
 | [],_,hmem=>have:=(hmem i).2 rfl; simp at this
 | [a],_,hmem=>rw [(hmem a).1 (by simp)]
 | a::b::l,hn,hmem=>
   have h1:=(hmem a).1 (by simp);have h2:=(hmem b).1 (by simp);rw [h1,h2] at hn;simp at hn
end
section
open Go.RowKit
def manyI (act:List Int) (kids:List Nat):Nat:=(kids.filter fun k:Nat=>act.contains (k:Int)).length
theorem zpc (act:List Int) (kids:List Nat):manyI act kids<=kids.length:=List.length_filter_le ..
def fitB (c:ChD) (act:List Int) (i:Nat) (s:StD):Bool:=
 !zaI s&&(decide (s.parent<0)||act.contains s.parent)&&
  (if s.kind=1/\kidsL c i true≠[] then manyI act (kidsL c i true)==1 else if s.kind=2 then manyI act (kidsL c i true)==(kidsL c i true).length else true)
def fitI (c:ChD) (act:List Int) (i:Int):Bool:=match at_ c i with
 | some s=>fitB c act i.toNat s
 | none=>false
def lgAt (c:ChD) (act:List Int) (n:Nat):Bool:=match act[n]? with
 | some i=>(n==0||decide (act.getD (n-1) 0<i))&&fitI c act i
 | none=>true
def zeB (c:ChD) (act:List Int):Int×Int:=match zaD (lgAt c act) act.length with
 | some n=>(1,max (act.getD n 0) (-1))
 | none=>if manyI act (kidsL c (-1) true)=1 then(0, -1) else(1, -1)
def lgB (c:ChD) (act:List Int):Bool:=(zeB c act).1==0
theorem zpg {c:ChD} {act:List Int} :lgB c act=true↔(∀n,n<act.length->lgAt c act n=true)/\manyI act (kidsL c (-1) true)=1:=by
 unfold lgB zeB;cases h:zaD (lgAt c act) act.length with
 | some n=>
   refine⟨fun e=>by simp at e,fun e=> ?_⟩;rw [zaC e.1] at h;cases h
 | none=>
   simp only;split
   ·rename_i e;exact⟨fun _=>⟨fun n hn=>zbc h n hn,e⟩,fun _=>rfl⟩
   ·rename_i e;exact⟨fun e2=>by simp at e2,fun e2=>absurd e2.2 e⟩
/-! What is active at first -/
def iniN (c:ChD):Nat:=c.initial.toNat
theorem Full.topS {c:ChD} (h:Full c): ∃s,c.states[iniN c]? =some s/\c.initial=(iniN c:Nat)/\s.parent= -1/\(s.kind=1\/s.kind=2):=by
 have:=h.ini;unfold topB at this;cases ha:at_ c c.initial with
 | none=>rw [ha] at this; simp at this
 | some s=>
   rw [ha] at this;unfold at_ at ha;split at ha
   ·rename_i h0;refine⟨s,ha,by unfold iniN; omega, ?_⟩;simp only [zco,Bool.and_eq_true,beq_iff_eq,Bool.or_eq_true] at this;exact⟨this.1,this.2⟩
   ·cases ha
def zhw (c:ChD):List Nat:=(List.range c.states.length).filter fun k=>decide (k∈sbL c (iniN c))
theorem zdy {c:ChD} (h:Full c) {k:Nat} :k∈zhw c↔k∈bgL c (iniN c):=by
 obtain⟨s,hs,_⟩:=h.topS;have hi:=(List.getElem?_eq_some_iff.1 hs).1;unfold zhw;rw [List.mem_filter,List.mem_range,decide_eq_true_eq,zoC h hi];exact⟨fun e=>e.2,fun e=>⟨(zrZ h 40 _ k hi (by have:=h.few; omega) e).2,e⟩⟩
theorem zn3 {l:List Nat} {k:Nat} :(zL l).contains (k:Int)=true↔k∈l:=by
 rw [List.contains_iff_mem];unfold zL;rw [List.mem_map];constructor
 ·rintro⟨j,h1,h2⟩;have:j=k:=by omega
  exact this ▸ h1
 ·exact fun h=>⟨k,h,rfl⟩
theorem filter_one {α:Type} [DecidableEq α] {p:α->Bool} {a:α} : ∀ {l:List α},l.Nodup->a∈l->(∀x∈l,p x=true↔x=a)->l.filter p=[a]
 | [],_,h,_=>by simp at h
 | x::l,hn,ha,hp=>by
   obtain⟨h1,h2⟩:=List.nodup_cons.1 hn;by_cases e:x=a
   ·subst e;rw [List.filter_cons,if_pos ((hp x (by simp)).2 rfl),List.filter_eq_nil_iff.2 fun y (hy:y∈l) hh=>h1 ((hp y (List.mem_cons_of_mem _ hy)).1 hh ▸ hy)]
   ·rw [List.filter_cons,if_neg fun hh=>e ((hp x (by simp)).1 hh)];exact filter_one h2 ((List.mem_cons.1 ha).resolve_left (Ne.symm e)) fun y hy=>hp y (List.mem_cons_of_mem _ hy)
theorem zto {p:Nat->Bool} {n:Nat} :((List.range n).filter p).Pairwise (· < ·):=List.Pairwise.sublist List.filter_sublist List.pairwise_lt_range
theorem zt7 {c:ChD} {l:List Nat} (hr:l.Pairwise (· < ·)) (hf: ∀k∈l,fitI c (zL l) k=true) (ht:manyI (zL l) (kidsL c (-1) true)=1):lgB c (zL l)=true:=by
 rw [zpg];refine⟨fun n hn=> ?_,ht⟩;have hn':n<l.length:=by simpa [zL] using hn
 have e:(zL l)[n]? =some ((l[n]:Nat):Int):=by unfold zL; rw [List.getElem?_map,List.getElem?_eq_getElem hn']; rfl
 unfold lgAt;rw [e];simp only [Bool.and_eq_true,Bool.or_eq_true,beq_iff_eq,decide_eq_true_eq];refine⟨?_,hf _ (List.getElem_mem hn')⟩;by_cases h0:n=0
 ·exact .inl h0
 ·right;have:=List.pairwise_iff_getElem.1 hr (n-1) n (by omega) hn' (by omega)
  have e2:(zL l).getD (n-1) 0=((l[n-1]'(by omega):Nat):Int):=by
   unfold zL;rw [List.getD_eq_getElem?_getD,List.getElem?_map,List.getElem?_eq_getElem (by omega)];rfl
  rw [e2];omega
theorem zrj {l kids:List Nat} (h: ∀k∈kids,k∈l):manyI (zL l) kids=kids.length:=by
 unfold manyI;rw [List.filter_eq_self.2 fun k hk=>zn3.2 (h k hk)]
theorem zl6 {l kids:List Nat} {j:Nat} (hn:kids.Nodup) (hj:j∈kids) (h: ∀k∈kids,k∈l↔k=j):manyI (zL l) kids=1:=by
 unfold manyI;rw [filter_one hn hj fun k hk=>zn3.trans (h k hk)];rfl
theorem zs6 {c:ChD} (h:Full c) {i m:Nat} {t:StD} (ht:c.states[i]? =some t) (hm0:zaI t=false) (hm:m∈bgL c i): ∃s,c.states[m]? =some s/\zaI s=false:=by
 have hi:=(List.getElem?_eq_some_iff.1 ht).1;rcases bg_from h 40 i m hi (by have:=h.few; omega) hm with rfl | ⟨p,q,_,_,h3,_⟩
 ·exact⟨t,ht,hm0⟩
 ·obtain⟨_,s,h1,h2⟩:=zao h3;exact⟨s,h1,h2⟩
theorem zlj {c:ChD} (h:Full c):lgB c (zL (zhw c))=true:=by
 obtain⟨t,ht,hini,htp,htk⟩:=h.topS;have hi:=(List.getElem?_eq_some_iff.1 ht).1
 have hm0:zaI t=false:=by
  unfold zaI;rcases htk with e | e<;>rw [e]<;>rfl
 refine zt7 zto (fun k hk=> ?_) ?_
 ·have hb:=(zdy h).1 hk;obtain⟨s,hs,hm⟩:=zs6 h ht hm0 hb;unfold fitI;rw [zbd,hs];simp only [Int.toNat_natCast];unfold fitB;rw [hm,Bool.and_eq_true,Bool.and_eq_true];refine⟨⟨rfl, ?_⟩, ?_⟩
  ·rw [Bool.or_eq_true,decide_eq_true_eq];by_cases e:k=iniN c
   ·subst e;rw [ht] at hs;cases hs;left; omega
   ·obtain⟨p,h1,h2⟩:=zkm h hi hb e;rw [zd9 hs] at h1;right;rw [h1];exact zn3.2 ((zdy h).2 h2)
  ·have hk2: ∀j∈kidsL c k true,(j∈zhw c↔s.kind=2\/s.initial=(j:Nat)):=fun j hj=>(zdy h).trans (znS h hi hb hs hj);split
   ·rename_i e;rw [beq_iff_eq];rcases h.cases hs with⟨_,⟨e1,_⟩ | ⟨j,hj,e1⟩⟩ | ⟨e1,_⟩ | ⟨e1,_⟩ | ⟨e1,_⟩
    ·exact absurd e1 e.2
    ·exact zl6 (zbs ..) hj fun x hx=>(hk2 x hx).trans ⟨fun q=>q.elim (fun q=>by omega) fun q=>by omega,fun q=> .inr (by rw [q]; exact e1)⟩
    ·omega
    ·omega
    ·omega
   ·split
    ·rename_i e;rw [beq_iff_eq];exact zrj fun j hj=>(hk2 j hj).2 (.inl e)
    ·rfl
 ·refine zl6 (j:=iniN c) (zbs ..) (ztA ht htp hm0) fun x hx=> ?_;rw [zdy h];constructor
  ·intro hb;by_cases e:x=iniN c
   ·exact e
   ·obtain⟨p,h1,_⟩:=zkm h hi hb e;have:=(zcH.1 (zao hx).1).2;omega
  ·rintro rfl;exact zlz h hi
/-! What begins is few -/
theorem zs5 {c:ChD} (h:Full c): ∀(n i m:Nat),i<c.states.length->c.states.length<=i+n->m∈bgL c i->m<c.states.length/\(m=i\/(i:Int)∈upL c m)
 | 0,i,m,hi,hn,_=>by omega
 | n+1,i,m,hi,hn,hm=>by
   obtain⟨s,hs⟩: ∃s,c.states[i]? =some s:=⟨c.states[i],List.getElem?_eq_getElem hi⟩;rw [zft h hs,List.mem_cons,List.mem_flatMap] at hm;rcases hm with rfl | ⟨k,hk,hm⟩
   ·exact⟨hi, .inl rfl⟩
   ·have hg:=zaG h.toRight (zao hk).1;have hkp:=(zcH.1 (zao hk).1).2;have hup:(i:Int)∈upL c k:=(zdg h.toRight (zay.2 hg.2)).2 (.inl hkp.symm);split at hm
    ·obtain⟨h1,h2⟩:=zs5 h n k m (by omega) (by omega) hm;refine⟨h1, .inr ?_⟩;rcases h2 with rfl | h2
     ·exact hup
     ·exact zhU h.toRight (m+1) m k i (by omega) h2 hup
    ·simp at hm
theorem zmA {c:ChD} (h:Full c): ∀(n i:Nat),i<c.states.length->c.states.length<=i+n->(bgL c i).Nodup
 | 0,i,hi,hn=>by omega
 | n+1,i,hi,hn=>by
   obtain⟨s,hs⟩: ∃s,c.states[i]? =some s:=⟨c.states[i],List.getElem?_eq_getElem hi⟩;rw [zft h hs,List.nodup_cons]
   have mem: ∀k∈kidsL c i true,∀m,m∈(if s.kind=2\/s.initial=(k:Nat) then bgL c k else [])->m<c.states.length/\(m=k\/(k:Int)∈upL c m):=fun k hk m hm=>by
    have hg:=zaG h.toRight (zao hk).1;split at hm
    ·exact zs5 h n k m (by omega) (by omega) hm
    ·simp at hm
   refine⟨fun hm=> ?_, ?_⟩
   ·obtain⟨k,hk,hm⟩:=List.mem_flatMap.1 hm;have hg:=zaG h.toRight (zao hk).1;obtain⟨q1,q2⟩:=mem k hk i hm;rcases q2 with e | e
    ·omega
    ·have:=zhV h.toRight 40 _ _ e;omega
   ·have hnd:=zbs c i true;rw [List.nodup_iff_pairwise_ne] at hnd;rw [List.nodup_iff_pairwise_ne,List.pairwise_flatMap];refine⟨fun k hk=> ?_, ?_⟩
    ·have hg:=zaG h.toRight (zao hk).1;rw [<-List.nodup_iff_pairwise_ne];split
     ·exact zmA h n k (by omega) (by omega)
     ·exact .nil
    ·refine List.Pairwise.imp_of_mem (R:=fun a b=>a≠b) ?_ hnd;intro k1 k2 hk1 hk2 hne m1 hm1 m2 hm2 e;subst e;obtain⟨q1,q2⟩:=mem k1 hk1 m1 hm1;obtain⟨_,q3⟩:=mem k2 hk2 m1 hm2;exact hne (zpn h.toRight (zao hk1).1 (zao hk2).1 (m1+1) m1 (by omega) q1 q2 q3)
theorem zmB {c:ChD} (h:Full c) {i:Nat} (hi:i<c.states.length):(bgL c i).length<=32:=by
 have hf:=h.few;have:=(zmA h 40 i hi (by omega)).length_le_of_subset (l₂:=List.range c.states.length) fun m hm=>List.mem_range.2 (zs5 h 40 i m hi (by omega) hm).1;simp at this;omega
theorem zlS {c:ChD} (h:Full c) (i:Nat):(sbL c i).length<=32:=by
 have hf:=h.few
 have:=(zhf h.toRight (zL (bgL c i))).length_le_of_subset (l₂:=List.range c.states.length) fun m hm=>by
  unfold sortL at hm;split at hm
  ·exact List.mem_range.2 ((zej h.toRight m).1 (List.mem_filter.1 hm).1)
  ·simp at hm
 unfold sbL;simp at this;omega
end
section
open Go.RowKit
/-! The n-th ones -/
end
section
open Go.RowKit
def zf8 (c:ChD) (l:List Nat):List Nat:=(List.range c.states.length).filter fun k=>inL l (k:Int)
theorem ze0 {l:List Nat} {k:Nat} :inL l (k:Int)=true↔k∈l:=by
 rw [zio];constructor
 ·rintro⟨j,h1,h2⟩;have:j=k:=by omega
  exact this ▸ h1
 ·exact fun h=>⟨k,h,rfl⟩
/-! One more is none -/
end
section
open Go.RowKit
attribute [go_sem] seenSt seesR zcY Row.see AV.see AV.see.seeL Option.getD_none Option.getD_some List.any_cons List.any_nil
section
variable {P:Program} {env:Env} {nt:Nat} {Q:Exit->St->Prop} {s:St}
theorem iL {o:Oper} {f:FuncId} {args:List AV} {rest:List Stp} {s1:St} {ft:Foot} {K:St->List Foot->Prop} {grown:Nat->Bool} {cs:(Nat->Nat)->List AV} {pre post:(Nat->Nat)->List (Nat×Row)} {res:(Nat->Nat)->AV} (L:List (Nat×Nat)) (hcon:ConI P env f (L.map (·.1)) grown cs pre post res) (k:aops P env rest s1 fun s2 fts=>K s2 (ft::fts)) (hc:zaQ env s.f o=some (f,args):=by exact rfl) (hk:(L.map (·.1)).Nodup:=by decide) (hr:(L.map (·.2)).Nodup:=by decide)
 (h1:AV.ren.renL (gin (toKL L)) args=cs (vin L s.vs):=by simp only [go_sem,F]<;>rfl) (h2:zqF L s.rows (pre (vin L s.vs)):=by simp only [go_sem,F,and_self]<;>trivial) (he:zqH s L:=by simp only [go_sem,F,and_self]<;>trivial)
 (h3: ∀o:Nat->Nat,zkt L grown s.vs o (post o) (post fun _=>0) L:=by intro o; simp only [go_sem,F,behind,and_self]<;>trivial) (h4: ∀o:Nat->Nat,(res o).ren (gout (toRL L) o (nout L grown s.vs))=(res fun _=>0).ren (gout (toRL L) (fun _=>0) (nout L grown s.vs)):=by intro o; simp only [go_sem,F]<;>rfl)
 (h5:Is ((⟨(res fun _=>0).ren (gout (toRL L) (fun _=>0) (nout L grown s.vs)),L.map (lay grown (behind L grown s.vs (post fun _=>0)))⟩:Out).app o.dst s) s1:=by simp only [go_sem,F,behind]; exact iR) (h6:Is (⟨L.map (·.2),L.map (·.2),wrs (L.map (lay grown (behind L grown s.vs (post fun _=>0)))),wes (L.map (lay grown (behind L grown s.vs (post fun _=>0))))⟩:Foot) ft:=by simp only [go_sem,F,behind]; exact iR):aops P env (⟨o, .always⟩::rest) s K:=zmD L hc hcon hk hr h1 h2 he h3 h4 h5 h6 k
theorem nC0 {c:Code} {s1:St} {row:Row} {e:List AV} (r r2 i j:Nat) (ty:TypeId) (sz:Nat) (h:awp P env nt c Q s1) (hr:Is (s.rows r) (some row):=by simp only [go_sem]; exact iR) (hi:row.es[i]? =some e:=by exact rfl) (hj:e[j]? =some (.lit (.slice none 0 0)):=by exact rfl)
 (h1:Is ((s.renew r2 ⟨sz,[],ty,true⟩ false).setRow r { row with es:=row.es.set i (e.set j (.row r2 (s.vs r2+1))) }) s1:=by simp only [go_sem]; exact iR) (hne:r2≠r:=by decide) (hsz:0<sz:=by decide) (hrz:row.sz≠0:=by exact Nat.succ_ne_zero _) (hp:row.pure=false:=by exact rfl):awp P env nt c Q s:=zgQ r r2 i j row e ty sz hne hsz hrz hp hi hj hr h1 h
theorem nC {c:Code} {s1:St} {row:Row} {e:List AV} (r r2 i j:Nat) (ty:TypeId) (sz:Nat) (h:awp P env nt c Q s1) (hr:Is (s.rows r) (some row):=by simp only [go_sem,F]; exact iR) (hi:row.es[i]? =some e:=by exact rfl) (hj:e[j]? =some (.lit (.slice none 0 0)):=by exact rfl)
 (h1:Is ((s.renew r2 ⟨sz,[],ty,true⟩ false).setRow r { row with es:=row.es.set i (e.set j (.row r2 (s.vs r2+1))) }) s1:=by simp only [go_sem,F]; exact iR) (hne:r2≠r:=by decide) (hsz:0<sz:=by decide) (hrz:row.sz≠0:=by exact Nat.succ_ne_zero _) (hp:row.pure=false:=by exact rfl):awp P env nt c Q s:=zgQ r r2 i j row e ty sz hne hsz hrz hp hi hj hr h1 h
theorem rI {p:Prop} (h:p:=by
 refine zak ?_;try simp only [zcK,zdc, ↓reduceIte,Nat.reduceEqDiff,reduceCtorEq]
 refine zsE ?_ ?_<;>simp only [go_sem,F,implies_true,and_self,imp_self,false_implies,AV.tuple.injEq,exists_eq_left',ne_eq]):p:=h
theorem rN {p:Prop} (h:p:=by refine zqY ?_ ?_<;>simp only [go_sem,F,implies_true,and_self,imp_self,false_implies,AV.tuple.injEq,exists_eq_left',ne_eq]):p:=h
theorem qi {f:FuncId} {fn:Func} {c:Code} {n:Nat} {rs:Array ResultVar} {ids:List Nat} {grown:Nat->Bool} {cs:(Nat->Nat)->List AV} {pre post:(Nat->Nat)->List (Nat×Row)} {res:(Nat->Nat)->AV} (hf:P.funcs[f]? =some fn) (hc: ∀(args:Array Value) (w:World),(callFunc f args).run P w= .ok (.enter f args) w) (hn:fn.ntmps=n) (hr:fn.results=rs)
 (h: ∀vs esc,(∀k∈ids,esc k=false)->awp P env n c (retI P rs.toList ids grown vs post res) ⟨fun t=>(cs vs).getD t .any,zaA (pre vs),vs,esc⟩) (hb:fn.body=some c:=by exact rfl) (hl: ∀vs,(cs vs).length<=n:=by intro _; simp):ConI P env f ids grown cs pre post res:=⟨hc,fn,c,hf,hb,(by rw [hn]; exact hl),(by rw [hn,hr]; exact h)⟩
end
end
section
open Go.RowKit Go.Extern.Stop Go.Stop Go.Extern
end
section
open Go.RowKit
end
section
open Go.RowKit
abbrev smallCs (k:Int):Array Value:= #[.string ⟨#[97]⟩, .int .i64 1, .int .i64 (-1), .int .i64 k, .slice none 0 0, .slice none 0 0, .string ⟨#[98]⟩, .int .i64 1, .int .i64 0, .int .i64 (-1), .slice none 0 0, .slice none 0 0]
def zlI (w:World) (g:Nat) (k:Int):Prop:= ∀i v,(smallCs k)[i]? =some v->w.cell? ⟨g,i,none⟩=some v
theorem zlI.below {w w':World} {g:Nat} {k:Int} (h:zlI w g k) (hb:Below w.heap.size w w'):zlI w' g k:=fun i v hi=>cell_below (h i v hi) hb
theorem EnvOk.all {env:Env} {S:Nat->Nat->Prop} {w:World} (h:EnvOk env S w):EnvOk env (fun b _=>b<w.heap.size) w:=⟨h.inv,fun _ _ h=>h,fun g c hg=>by
 obtain⟨u,h1,h2,h3,h4⟩:=h.env g c hg
 exact⟨u,h1,h2,h.low _ _ h3,h4.mono fun b o hb=>⟨h.low _ _ hb, .rfl⟩⟩⟩
theorem EnvOk.belowA {env:Env} {w w':World} (h:EnvOk env (fun b _=>b<w.heap.size) w) (hb:Below w.heap.size w w'):EnvOk env (fun b _=>b<w'.heap.size) w':=⟨env.up _ _ h.inv hb,fun _ _ h=>h,fun g c hg=>by
 obtain⟨u,h1,h2,h3,h4⟩:=h.env g c hg
 exact⟨u,cell_below h1 hb,h2,Nat.lt_of_lt_of_le h3 hb.size,h4.mono fun b o (hbo:b<_)=>⟨Nat.lt_of_lt_of_le hbo hb.size,hb.stay hbo⟩⟩⟩
theorem zrQ {P:Program} {env:Env} {f:FuncId} {cs:List AV} {res:AV} {w:World} {vs:List Value} (h:Con P env f cs res) (hE:EnvOk env (fun b _=>b<w.heap.size) w) (hres: ∀e sz es,res≠ .own e sz es) (hv:RAs (fun b _=>b<w.heap.size) w vs cs):
 Calls P f vs.toArray w fun e w'=> ∃v,e= .returned v/\Below w.heap.size w w'/\EnvOk env (fun b _=>b<w'.heap.size) w'/\RV (fun b _=>b<w'.heap.size) w' v res:=by
 obtain⟨h1,h2⟩:=hv.at_;refine(h.calls w _ vs hE h1 h2).mono ?_;rintro e w' ⟨v,rfl,hb,S',_,_,hlt,hr⟩;refine⟨v,rfl,hb,hE.belowA hb, ?_⟩
 have hr':RV S' w' v res:=by
  cases res with
  | own e sz es=>exact(hres e sz es rfl).elim
  | _=>exact hr
 exact hr'.mono fun b o hbo=>⟨hlt b o hbo, .rfl⟩
end
section
open Go.RowKit
end
section
open Go.RowKit
end
section
open Go.RowKit
structure ChEnv (env:Env) (a1 a8:Addr):Prop where
 e1:env 1=some (sentV a1)
 e8:env 7=some (sentV a8)
def zdB (a1 a8:Addr) (l:List OpD) (vs ss:Int):AV:=if zdU l vs ss=0 then nilE else if zdU l vs ss=8 then errV (-1) (sentV a8) else errV (-1) (sentV a1)
theorem zhE {l:List OpD} (vs ss:Int) (h:32<l.length):zdU l vs ss=8:=by unfold zdU; rw [if_pos h]
theorem zki {l:List OpD} {vs ss:Int} (h: ¬32<l.length) (hh:hgt vs ss l 0=some 1):zdU l vs ss=0:=by unfold zdU; rw [if_neg h,if_pos hh]
theorem zfI {l:List OpD} {vs ss:Int} (h: ¬32<l.length) (hh:hgt vs ss l 0≠some 1):zdU l vs ss=1:=by unfold zdU; rw [if_neg h,if_neg hh]
theorem zi0 {vs ss n:Int} {o:OpD} (h:zbn vs ss n o=true): ¬zac o.kind<0/\ ¬n<zac o.kind/\numB o vs ss=true:=by
 simp only [zbn,Bool.and_eq_true,decide_eq_true_eq] at h;exact⟨by omega,by omega,h.2⟩
theorem zhe {vs ss n:Int} {o:OpD} (h:zbn vs ss n o=false):zac o.kind<0\/(¬zac o.kind<0/\n<zac o.kind)\/(¬zac o.kind<0/\ ¬n<zac o.kind/\numB o vs ss=false):=by
 by_cases a:zac o.kind<0
 ·exact .inl a
 by_cases b:n<zac o.kind
 ·exact .inr (.inl ⟨a,b⟩)
 refine .inr (.inr ⟨a,b, ?_⟩);have e1:0<=zac o.kind:=by omega
 have e2:zac o.kind<=n:=by omega
 simpa [zbn,e1,e2] using h
theorem zdX (env:Env) (a1 a8:Addr) (he:ChEnv env a1 a8) (l:List OpD) (vs ss:Int):Con prog env 233 [opsAV l,I vs,I ss] (zdB a1 a8 l vs ss):=by
 have g1:=zgx he.e1;have g8:=zgx he.e8;refine qf func233 call233 ntmps233 results233 ?_;by_cases hl:32<l.length
 ·have hL:(32:Int)<l.length:=by omega
  rw [show zdB a1 a8 l vs ss=errV (-1) (sentV a8) by unfold zdB; rw [zhE vs ss hl]; rfl];have F:=ai hL g8;repeat (first | refine st ?_ | refine cC (zbD env _ a8) ?_)
  exact aR
 have hL: ¬(32:Int)<l.length:=by omega
 have F:=hL;repeat refine st ?_
 refine zab (D:=Nat×Int) (fun d _=>[(1,I vs),(2,I ss),(7,I d.2),(16,opsAV l),(17,I l.length),(18,I d.1)]) (fun _ _=>[]) (fun d _ _=>d.1<=l.length/\hgt vs ss l 0=hgt vs ss (l.drop d.1) d.2/\0<=d.2/\d.2<=d.1) (fun d=>l.length-d.1) (0,0) ?_ ?_ ?_ ?_
 ·exact⟨Nat.zero_le _,rfl,Int.le_refl _,Int.le_refl _⟩
 ·exact qe
 ·exact qe
 rintro⟨i,n⟩ ws esc ⟨hi,hh,h0,hn⟩;simp only at hi hh h0 hn;by_cases hlt:i<l.length
 ·obtain⟨o,ho,_⟩:=zal hlt;obtain⟨up,no⟩:=zir ho hh;have k1:=nlt hlt;have k2:=zaa hlt (by omega);have hop:=zdv o.kind;cases hok:zbn vs ss n o with
  | true=>
    obtain⟨b1,b2,b3⟩:=zi0 hok;have w1:IntKind.i64.wrap (1-zac o.kind)=1-zac o.kind:=zaw (by omega) (by omega);have w2:IntKind.i64.wrap (n+(1-zac o.kind))=n+(1-zac o.kind):=zaw (by omega) (by omega);have F:=ai9 k1 k2 ho opAV.eq_1 b1 b2 b3 w1 w2;repeat (first | refine st ?_ | refine cC (zcc env o.kind) ?_ | refine cC (zc1 env o vs ss) ?_)
    refine⟨(i+1,n+(1-zac o.kind)),⟨by simp only; omega, ?_,by simp only; omega,by simp only; omega⟩, ?_, ?_, ?_⟩
    ·simp only;rw [up hok]
     congr 1
     omega
    ·exact qe
    ·exact qe
    ·simp only; omega
  | false=>
    rw [show zdB a1 a8 l vs ss=errV (-1) (sentV a1) by unfold zdB; rw [zfI hl (by rw [no hok]; simp)]; rfl];rcases zhe hok with b1 | ⟨b1,b2⟩ | ⟨b1,b2,b3⟩
    ·have F:=ai6 k1 k2 ho opAV.eq_1 b1 g1;repeat (first | refine st ?_ | refine cC (zcc env o.kind) ?_ | refine cC (zc1 env o vs ss) ?_ | refine cC (zbD env _ a1) ?_)
     exact aR
    ·have F:=ai7 k1 k2 ho opAV.eq_1 b1 b2 g1;repeat (first | refine st ?_ | refine cC (zcc env o.kind) ?_ | refine cC (zc1 env o vs ss) ?_ | refine cC (zbD env _ a1) ?_)
     exact aR
    ·have F:=ai8 k1 k2 ho opAV.eq_1 b1 b2 b3 g1;repeat (first | refine st ?_ | refine cC (zcc env o.kind) ?_ | refine cC (zc1 env o vs ss) ?_ | refine cC (zbD env _ a1) ?_)
     exact aR
 ·have k1: ¬(i:Int)< (l.length:Int):=by omega
  have hend:=zlg (by omega) hh;by_cases h1:n=1
  ·subst h1;rw [show zdB a1 a8 l vs ss=nilE by unfold zdB; rw [zki hl hend]; rfl];have F:=ai k1 g1;repeat (first | refine st ?_ | refine cC (zbD env _ a1) ?_)
   exact aR
  ·rw [show zdB a1 a8 l vs ss=errV (-1) (sentV a1) by unfold zdB; rw [zfI hl (by rw [hend]; simpa using h1)]; rfl];have k2:(n != 1)=true:=by simpa using h1
   have F:=ai3 k1 k2 g1;repeat (first | refine st ?_ | refine cC (zbD env _ a1) ?_)
   exact aR
theorem zdW (env:Env) (l:List OpD) (vs ss:Int):Con prog env 199 [opsAV l,I vs,I ss] (I (zdU l vs ss)):=by
 refine qf func199 call199 ntmps199 results199 ?_;by_cases hl:32<l.length
 ·have hL:(32:Int)<l.length:=by omega
  rw [zhE vs ss hl];have F:=hL;repeat refine st ?_
  exact aR
 have hL: ¬(32:Int)<l.length:=by omega
 have F:=hL;repeat refine st ?_
 refine zab (D:=Nat×Int) (fun d _=>[(0,opsAV l),(1,I vs),(2,I ss),(7,I d.2),(8,I d.1)]) (fun _ _=>[]) (fun d _ _=>d.1<=l.length/\hgt vs ss l 0=hgt vs ss (l.drop d.1) d.2/\0<=d.2/\d.2<=d.1) (fun d=>l.length-d.1) (0,0) ?_ ?_ ?_ ?_
 ·exact⟨Nat.zero_le _,rfl,Int.le_refl _,Int.le_refl _⟩
 ·exact qe
 ·exact qe
 rintro⟨i,n⟩ ws esc ⟨hi,hh,h0,hn⟩;simp only at hi hh h0 hn;by_cases hlt:i<l.length
 ·obtain⟨o,ho,_⟩:=zal hlt;obtain⟨up,no⟩:=zir ho hh;have k1:=nlt hlt;have k2:=zaa hlt (by omega);have hop:=zdv o.kind;cases hok:zbn vs ss n o with
  | true=>
    obtain⟨b1,b2,b3⟩:=zi0 hok;have w1:IntKind.i64.wrap (n-zac o.kind)=n-zac o.kind:=zaw (by omega) (by omega);have w2:IntKind.i64.wrap (n-zac o.kind+1)=n-zac o.kind+1:=zaw (by omega) (by omega);have F:=ai9 k1 k2 ho opAV.eq_1 b1 b2 b3 w1 w2;repeat (first | refine st ?_ | refine cC (zbC env o.kind) ?_ | refine cC (zcZ env o vs ss) ?_)
    refine⟨(i+1,n-zac o.kind+1),⟨by simp only; omega,up hok,by simp only; omega,by simp only; omega⟩, ?_, ?_, ?_⟩
    ·exact qe
    ·exact qe
    ·simp only; omega
  | false=>
    rw [zfI hl (by rw [no hok]; simp)];rcases zhe hok with b1 | ⟨b1,b2⟩ | ⟨b1,b2,b3⟩
    ·have F:=ai5 k1 k2 ho opAV.eq_1 b1;repeat (first | refine st ?_ | refine cC (zbC env o.kind) ?_ | refine cC (zcZ env o vs ss) ?_)
     exact aR
    ·have F:=ai6 k1 k2 ho opAV.eq_1 b1 b2;repeat (first | refine st ?_ | refine cC (zbC env o.kind) ?_ | refine cC (zcZ env o vs ss) ?_)
     exact aR
    ·have F:=ai7 k1 k2 ho opAV.eq_1 b1 b2 b3;repeat (first | refine st ?_ | refine cC (zbC env o.kind) ?_ | refine cC (zcZ env o vs ss) ?_)
     exact aR
 ·have k1: ¬(i:Int)< (l.length:Int):=by omega
  have hend:=zlg (by omega) hh;by_cases h1:n=1
  ·subst h1;rw [zki hl hend];have F:=k1;repeat refine st ?_
   exact aR
  ·rw [zfI hl (by rw [hend]; simpa using h1)];have k2:(n != 1)=true:=by simpa using h1
   have F:=ai k1 k2;repeat refine st ?_
   exact aR
end

end Go.Proofs.YtbpmkofnfgdegaaGreatDoor