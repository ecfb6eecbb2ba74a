/- Contracts of expressions' checks, of numbers among numbers: by the walk without memory. -/
import Derived.Test.YtknkhdgfhbogdaaGreatDoorP10
set_option maxRecDepth 100000
set_option maxHeartbeats 8000000
set_option linter.unusedSimpArgs false
set_option linter.defProp false
namespace Go.Proofs.YtknkhdgfhbogdaaGreatDoor
open Go.Proofs.Tryz
section
open Go.RowKit
def ed(c:aq)(i:Int):Bool:=decide (0<=i)&&decide (i<c.Z9.length)
def aP(c:aq)(i:Int):Int:=match at_ c i with
 |some s=>s.parent
 |none=> -1
def aI{c:aq}{i:Int} :ed c i=true↔0<=i/\i<c.Z9.length:=by
 unfold ed;rw[Li,Lt,Lt]
def aV{c:aq}{k:Nat} :ed c k=true↔k<c.Z9.length:=by rw[aI];omega
def bL(c:aq)(k:Nat):at_ c k=c.Z9[k]? :=by unfold at_;rw[Lj (by omega),Mz]
def cO{c:aq}{i:Int}(h:ed c i=true): ∃k s,i=(k:Nat)/\c.Z9[k]? =some s/\at_ c i=some s:=by
 obtain⟨b,d⟩:=aI.1 h;have a:i.toNat<c.Z9.length:=by omega
 refine⟨i.toNat,c.Z9[i.toNat],by omega,Lc a,?_⟩;unfold at_;rw[Lj b,Lc a]
def dV{c:aq}(h:Right c){i:Int}(hi:ed c i=true): -1<=aP c i/\aP c i<i:=by
 obtain⟨k,s,rfl,a,b⟩:=cO hi;unfold aP;rw[b];exact h.par k s a
def eA{c:aq}{k:Nat}{s:na}(h:c.Z9[k]? =some s):aP c k=s.parent:=by
 unfold aP;rw[bL,h]
/-! The way up -/
def Qm(c:aq):Nat->Int->List Int
 |0,_=>[]
 |f+1,i=>if ed c i=true then aP c i::Qm c f (aP c i) else []
def i'(c:aq)(i:Int):List Int:=Qm c 40 i
def kB{c:aq}{i:Int}(h:ed c i=false)(f:Nat):Qm c f i=[]:=by
 cases f with
 |zero=>rfl
 |succ f=>unfold Qm;rw[h];simp
def Dh{c:aq}(h:Right c): ∀(f g:Nat)(i:Int),i<f->i<g->Qm c f i=Qm c g i
 | 0,g,i,d,e=>by
   have:ed c i=false:=by
    cases a:ed c i
    ·rfl
    have:=aI.1 a;omega
   rw[kB this,kB this]
 | f+1,g,i,d,e=>by
   cases a:ed c i with
   |false=>rw[kB a,kB a]
   | true=>
     have j:=(aI.1 a).1;obtain⟨b,rfl⟩: ∃b,g=b+1:=⟨g-1,by omega⟩;have:=dV h a;unfold Qm;rw[a];simp only[Mb];rw[Dh h f b (aP c i) (by omega) (by omega)]
def cW{c:aq}{i:Int}(h:ed c i=false):i' c i=[]:=kB h _
def rL{c:aq}(h:Right c){i:Int}(hi:ed c i=true):i' c i=aP c i::i' c (aP c i):=by
 have d:=h.Z6;have a:=aI.1 hi;have b:=dV h hi;show Qm c (39+1) i=aP c i::Qm c 40 (aP c i);rw[show Qm c (39+1) i=if ed c i=true then aP c i::Qm c 39 (aP c i) else [] from rfl,Lj hi,Dh h 39 40 _ (by omega) (by omega)]
def jp{c:aq}(h:Right c): ∀(f:Nat)(i:Int)(k:Int),k∈Qm c f i-> -1<=k/\k<i
 |0,i,k,hk=>by simp[Qm]at hk
 | f+1,i,k,hk=>by
   cases a:ed c i with
   |false=>rw[kB a]at hk;simp at hk
   | true=>
     have:=dV h a;unfold Qm at hk;rw[a]at hk;simp only[Mb,MI]at hk;rcases hk with rfl|hk
     ·exact this
     have:=jp h f _ k hk;omega
def cn{c:aq}(h:Right c){i:Int}(hi:ed c i=true){k:Int} :k∈i' c i↔k=aP c i\/k∈i' c (aP c i):=by rw[rL h hi,MI]
def kJ{c:aq} : ∀(f:Nat)(i:Int),(Qm c f i).length<=f
 |0,i=>by simp[Qm]
 | f+1,i=>by
   unfold Qm;split
   ·have:=kJ (c:=c) f (aP c i);simp;omega
   simp
def rJ{c:aq}(h:Right c): ∀(n:Nat)(i:Int),ed c i=true->i<n-> -1∈i' c i
 |0,i,a,b=>by have:=aI.1 a;omega
 | n+1,i,a,b=>by
   rw[cn h a];have f:=dV h a;by_cases e:aP c i= -1
   ·exact .inl e.symm
   have d:=aI.1 a;exact .inr (rJ h n _ (aI.2 (by omega)) (by omega))
def iP{c:aq}(h:Right c): ∀(n:Nat)(i j k:Int),i<n->j∈i' c i->k∈i' c j->k∈i' c i
 | 0,i,j,k,e,a,d=>by
   cases b:ed c i with
   |false=>rw[cW b]at a;simp at a
   |true=>have:=aI.1 b;omega
 | n+1,i,j,k,e,a,d=>by
   cases b:ed c i with
   |false=>rw[cW b]at a;simp at a
   | true=>
     rw[cn h b]at a |-;have f:=dV h b;rcases a with rfl|a
     ·exact .inr d
     exact .inr (iP h n _ j k (by omega) a d)
/-! What is above a state, as bits -/
def CX(c:aq):Nat->Int->Nat
 |0,_=>0
 |f+1,i=>if ed c i=true then(if 0<=aP c i then CX c f (aP c i)||| 2^(aP c i).toNat else 0) else 0
def tu{c:aq}(h:Right c): ∀(f:Nat)(i:Int)(k:Nat),(CX c f i).testBit k=decide ((k:Int)∈Qm c f i)
 |0,i,k=>by simp[CX,Qm]
 | f+1,i,k=>by
   unfold CX Qm;cases b:ed c i with
   |false=>simp
   | true=>
     simp only[Mb];have l:=dV h b;by_cases e:0<=aP c i
     ·rw[Lj e,P5,tu h f,Oc];by_cases a:(k:Int)=aP c i
      ·have:(aP c i).toNat=k:=by omega
       simp[a,this]
      have: ¬(aP c i).toNat=k:=by omega
      simp[a,this]
     rw[Lf e];have d:aP c i= -1:=by omega
     have j:ed c (-1)=false:=by
      cases g:ed c (-1)
      ·rfl
      have:=aI.1 g;omega
     rw[d,kB j];simp
def n5(c:aq)(i:Int):Nat:=CX c 40 i
def sC{c:aq}(h:Right c)(i:Int)(k:Nat):(n5 c i).testBit k=decide ((k:Int)∈i' c i):=tu h 40 i k
def mb{c:aq}(h:Right c){i:Int}(hi:i<32):n5 c i<2^32:=by
 apply Nat.lt_pow_two_of_testBit;intro k b;rw[sC h];simp only[Me];intro a;have:=jp h 40 i k a;omega
def vo{c:aq}(h:Right c){i:Int}(hi:ed c i=true):n5 c i=if 0<=aP c i then n5 c (aP c i)||| 2^(aP c i).toNat else 0:=by
 apply Nat.eq_of_testBit_eq;intro k;have g:=dV h hi;rw[sC h,rL h hi];by_cases e:0<=aP c i
 ·rw[Lj e,P5,sC h,Oc];by_cases a:(k:Int)=aP c i
  ·have:(aP c i).toNat=k:=by omega
   simp[a,this]
  have: ¬(aP c i).toNat=k:=by omega
  simp[a,this]
 rw[Lf e];have b:aP c i= -1:=by omega
 have f:ed c (-1)=false:=by
  cases d:ed c (-1)
  ·rfl
  have:=aI.1 d;omega
 rw[b,cW f];simp
def dX{a c:Type}{f g:a->List c} : ∀ {l:List a},(∀x∈l,f x=g x)->l.flatMap f=l.flatMap g
 |[],_=>rfl
 | x::l,h=>by
   simp only[Ox];rw[h x (by simp),dX fun y b=>h y (by simp[b])]
/-! The walk -/
def qR(c:aq):Nat->Int->List Nat
 |0,_=>[]
 |f+1,i=>(av c i false).flatMap fun k=>k::qR c f k
def gc(c:aq)(i:Int):List Nat:=qR c 40 i
def eC{c:aq}{i:Int}{k:Nat} :k∈av c i false↔k<c.Z9.length/\aP c k=i:=by
 unfold av bg;rw[Lq,MK];constructor
 ·rintro⟨b,a⟩;obtain⟨s,d⟩:=gE b;refine⟨b,?_⟩;unfold dI at a;rw[d]at a;rw[eA d];simpa using a
 rintro⟨b,a⟩;obtain⟨s,d⟩:=gE b;refine⟨b,?_⟩;unfold dI;rw[d];rw[eA d]at a;simp[a]
def bU(c:aq)(i:Int)(a:Bool):(av c i a).Nodup:=QF My List.nodup_range
def aY{c:aq}{i:Int}{k:Nat}(h:k∈av c i true):k∈av c i false/\ ∃s,c.Z9[k]? =some s/\aU s=false:=by
 unfold av bg at h |-;rw[Lq]at h |-;obtain⟨d,a⟩:=h;unfold dI at a |-;cases b:c.Z9[k]? with
 |none=>rw[b]at a;cases a
 | some s=>
   rw[b]at a;simp at a |-;exact⟨⟨by simpa using d,a.1⟩,a.2⟩
def bH{c:aq}(h:Right c){i:Int}{k:Nat}(b:k∈av c i false):i<k/\k<c.Z9.length:=by
 obtain⟨a,d⟩:=eC.1 b;have:=dV h (aV.2 a);omega
def En{c:aq}(h:Right c): ∀(f g:Nat)(i:Int),(c.Z9.length:Int)<=i+f->(c.Z9.length:Int)<=i+g->qR c f i=qR c g i:=by
 have none: ∀(g:Nat)(i:Int),(c.Z9.length:Int)<=i->qR c g i=[]:=fun g i j=>by
  cases g with
  |zero=>rfl
  | succ g=>
    unfold qR;have:av c i false=[]:=Np.2 fun k a=>by have:=bH h a;omega
    rw[this];rfl
 intro f
 induction f with
 |zero=>intro g i b d;rw[none g i (by omega)];rfl
 | succ f e=>
   intro g i b d;cases g with
   |zero=>rw[none (f+1) i (by omega)];rfl
   | succ g=>
     unfold qR;apply dX;intro k a;have:=bH h a;rw[e g k (by omega) (by omega)]
def DE{c:aq}(h:Right c){i:Int}(_hi: -1<=i):gc c i=(av c i false).flatMap fun k=>k::gc c k:=by
 have b:=h.Z6;show (av c i false).flatMap (fun k=>k::qR c 39 k)=_;apply dX;intro k a;have:=bH h a;rw[show qR c 39 k=gc c k from En h 39 40 k (by omega) (by omega)]
def jX{c:aq}(h:Right c): ∀(n:Nat)(i:Int)(m:Nat), -1<=i->(c.Z9.length:Int)<=i+n->(m∈gc c i↔m<c.Z9.length/\i∈i' c m)
 | 0,i,m,o,w=>by
   rw[DE h o];have:av c i false=[]:=Np.2 fun k b=>by have:=bH h b;omega
   rw[this];simp only[List.flatMap_nil,List.not_mem_nil,false_iff,not_and];intro j l;have:=jp h 40 m i l;omega
 | n+1,i,m,o,w=>by
   rw[DE h o,Nq];constructor
   ·rintro⟨k,b,hm⟩;have v:=bH h b;obtain⟨r,t⟩:=eC.1 b;rcases MI.1 hm with rfl|hm
    ·exact⟨r,(cn h (aV.2 r)).2 (.inl t.symm)⟩
    obtain⟨C,D⟩:=(jX h n k m (by omega) (by omega)).1 hm;refine⟨C,iP h 40 m k i (by have:=h.Z6;omega) D ((cn h (aV.2 r)).2 (.inl t.symm))⟩
   rintro⟨j,l⟩
   have s: ∀(d:Nat)(m:Nat),m<d->m<c.Z9.length->i∈i' c m-> ∃k∈av c i false,m=k\/(k:Int)∈i' c m:=fun d=>by
    induction d with
    |zero=>intro m u;omega
    | succ d B=>
      intro m u hm z;have f:=aV.2 hm;rcases (cn h f).1 z with e|e
      ·exact⟨m,eC.2 ⟨hm,e.symm⟩, .inl rfl⟩
      have x:=dV h f
      have E:0<=aP c m:=by
       rcases P6 (aP c m) 0 with q|q
       ·have A:ed c (aP c m)=false:=by
         cases y:ed c (aP c m)
         ·rfl
         have:=aI.1 y;omega
        rw[cW A]at e;simp at e
       exact q
      obtain⟨p,g⟩: ∃p:Nat,aP c m=p:=⟨(aP c m).toNat,by omega⟩;rw[g]at e x;obtain⟨k,b,a⟩:=B p (by omega) (by omega) e;refine⟨k,b, .inr ((cn h f).2 ?_)⟩;rw[g];rcases a with rfl|a
      ·exact .inl rfl
      exact .inr a
   obtain⟨k,b,a⟩:=s (m+1) m (by omega) j l;have v:=bH h b;refine⟨k,b,MI.2 ?_⟩;rcases a with e|e
   ·exact .inl e
   exact .inr ((jX h n k m (by omega) (by omega)).2 ⟨j,e⟩)
def gJ{c:aq}(h:Right c)(m:Nat):m∈gc c (-1)↔m<c.Z9.length:=by
 rw[jX h 40 (-1) m (by omega) (by have:=h.Z6;omega)];exact⟨fun h=>h.1,fun a=>⟨a,rJ h (m+1) m (aV.2 a) (by omega)⟩⟩
def xu{c:aq}(h:Right c){i:Int}{g j:Nat}(u:g∈av c i false)(v:j∈av c i false): ∀(d m:Nat),m<d->m<c.Z9.length->(m=g\/(g:Int)∈i' c m)->(m=j\/(j:Int)∈i' c m)->g=j:=by
 obtain⟨l,o⟩:=eC.1 u;obtain⟨n,r⟩:=eC.1 v
 have t: ∀ {x y:Nat},x<c.Z9.length->aP c x=i->y<c.Z9.length->aP c y=i-> ¬(y:Int)∈i' c x:=fun {x y} s G B H k=>by
  have I:=dV h (aV.2 s);have J:=dV h (aV.2 B);rcases (cn h (aV.2 s)).1 k with e|e
  ·omega
  have:=jp h 40 _ _ e;omega
 intro d
 induction d with
 |zero=>intro m w;omega
 | succ d D=>
   intro m w k e1 a;rcases e1 with rfl|e1
   ·rcases a with rfl|a
    ·rfl
    exact absurd a (t l o n r)
   rcases a with rfl|a
   ·exact absurd e1 (t n r l o)
   have b:=aV.2 k;have z:=dV h b
   have E:0<=aP c m:=by
    rcases P6 (aP c m) 0 with q|q
    ·have C:ed c (aP c m)=false:=by
      cases A:ed c (aP c m)
      ·rfl
      have:=aI.1 A;omega
     rw[cn h b,cW C]at e1;rcases e1 with e|e
     ·omega
     simp at e
    exact q
   obtain⟨p,f⟩: ∃p:Nat,aP c m=p:=⟨(aP c m).toNat,by omega⟩;rw[cn h b,f]at e1 a;rw[f]at z;exact D p (by omega) (by omega) (by rcases e1 with e|e;exact .inl (by omega);exact .inr e) (by rcases a with e|e;exact .inl (by omega);exact .inr e)
def jm{c:aq}(h:Right c): ∀(n:Nat)(i:Int), -1<=i->(c.Z9.length:Int)<=i+n->(gc c i).Nodup
 | 0,i,p,w=>by
   rw[DE h p];have:av c i false=[]:=Np.2 fun k d=>by have:=bH h d;omega
   rw[this];simp
 | n+1,i,p,w=>by
   rw[DE h p]
   have l: ∀k∈av c i false,∀m,m∈k::gc c k->m<c.Z9.length/\(m=k\/(k:Int)∈i' c m):=fun k d m hm=>by
    have v:=bH h d;rcases MI.1 hm with rfl|hm
    ·exact⟨v.2, .inl rfl⟩
    obtain⟨t,u⟩:=(jX h n k m (by omega) (by omega)).1 hm;exact⟨t, .inr u⟩
   have j:=bU c i false;rw[NU]at j;rw[NU,List.pairwise_flatMap];refine⟨fun k d=> ?_,?_⟩
   ·rw[<-NU,Nm];have v:=bH h d;refine⟨fun hm=> ?_,jm h n k (by omega) (by omega)⟩;have:=(jX h n k k (by omega) (by omega)).1 hm;have:=jp h 40 _ _ this.2;omega
   refine PU (R:=fun a b=>a≠b) ?_ j;intro x y f g s o q A r e;subst e;obtain⟨t,u⟩:=l x f o q;obtain⟨_,z⟩:=l y g o r;exact s (xu h f g (o+1) o (by omega) t u z)
/-! Sorting by the walk -/
def bt(c:aq)(l:List Int):List Nat:=if l.all (ed c)=true then(gc c (-1)).filter fun k=>l.contains (k:Int) else []
def AF{c:aq}(h:Right c){l:List Int}(b:l.all (ed c)=true){k:Nat} :k∈bt c l↔(k:Int)∈l:=by
 unfold bt;rw[Lj b,Lq,gJ h];simp only[Lk];refine⟨fun h=>h.2,fun a=>⟨aV.1 (Lm.1 b _ a),a⟩⟩
def mQ{c:aq}(h:Right c)(l:List Int):(bt c l).Nodup:=by
 unfold bt;split
 ·exact QF My (jm h 40 (-1) (by omega) (by have:=h.Z6;omega))
 simp
structure b8(c:aq):Prop extends Right c where
 st: ∀(k:Nat)(s:na),c.Z9[k]? =some s->cJ c k s=true
 tr: ∀(k:Nat)(t:sh),c.trans[k]? =some t->d5 c t=true
 ini:mO c=true
 ZP:c.trans.length<=64
def Qq{c:aq}(h:(nv c).1=0):b8 c:=by
 refine⟨AL h,?_,?_,?_,?_⟩<;>
 ·unfold nv at h;split at h
  ·simp at h
  rename_i g;split at h
  ·simp at h
  split at h
  ·simp at h
  split at h
  ·simp at h
  rename_i d;split at h
  ·simp at h
  rename_i e;split at h
  ·simp at h
  rename_i f
  first
   |(intro k s a
     have:=cc d k (Ld.1 a).1;unfold lY at this;rw[a]at this
     exact this)
   |(intro k t b
     have:=cc f k (Ld.1 b).1;unfold qb at this;rw[b]at this
     exact this)
   |(simpa using e)
   |omega
def b8.shape{c:aq}(h:b8 c){k:Nat}{s:na}(a:c.Z9[k]? =some s):dG c k s=true:=by
 have:=h.st k s a;simp only[cJ,Li]at this;exact this.1.1.2
def og{l:List Nat}{n:Int} :DH l n=true↔ ∃k∈l,(k:Int)=n:=by
 unfold DH;rw[Ml];simp
def b8.cases{c:aq}(h:b8 c){k:Nat}{s:na}(g:c.Z9[k]? =some s):
 (s.kind=1/\((av c k true=[]/\s.initial= -1)\/ ∃j∈av c k true,s.initial=(j:Nat)))\/(s.kind=2/\s.initial= -1/\av c k true≠[]/\ ∀j∈av c k true,ax c j=true)\/
  (s.kind=3/\av c k false=[]/\s.initial= -1)\/((s.kind=4\/s.kind=5)/\av c k false=[]/\cq c s=true/\DH (av c s.parent true) s.initial=true):=by
 have a:=h.shape g;unfold dG at a;split at a
 ·rename_i e;refine .inl ⟨e,?_⟩;split at a
  ·rename_i b;exact .inl ⟨b,by simpa using a⟩
  obtain⟨j,f,d⟩:=og.1 a;exact .inr ⟨j,f,d.symm⟩
 split at a
 ·rename_i e;simp only[Li,Lt,Mh,Lm]at a;exact .inr (.inl ⟨e,a.2,fun b=>by rw[b]at a;simp at a,a.1.1⟩)
 split at a
 ·rename_i e;simp only[Li,Mh]at a;exact .inr (.inr (.inl ⟨e,by simpa using a.1.1.1,a.1.2⟩))
 split at a
 ·rename_i e;simp only[Li,Mh]at a;exact .inr (.inr (.inr ⟨e,by simpa using a.1.1.1.1,a.1.1.1.2,a.1.1.2⟩))
 cases a
def ll{c:aq}{i:Int}(h:av c i false=[]):av c i true=[]:=by
 apply Np.2;intro k a;have:=(aY a).1;rw[h]at this;simp at this
abbrev zL(l:List Nat):List Int:=l.map fun k:Nat=>(k:Int)
/-! What begins with a state -/
def RP(c:aq):Nat->Nat->List Nat
 |0,_=>[]
 | f+1,i=>i::match c.Z9[i]? with
   |some s=>if s.kind=1/\0<=s.initial then RP c f s.initial.toNat else if s.kind=2 then(av c i true).flatMap (RP c f) else []
   |none=>[]
def wd(c:aq)(i:Nat):List Nat:=RP c 40 i
def xw{c:aq}(h:b8 c){i:Nat}{s:na}(a:c.Z9[i]? =some s)(d:s.kind=1)(b:0<=s.initial): ∃j∈av c i true,s.initial=(j:Nat):=by
 rcases h.cases a with⟨_,⟨_,e⟩|e⟩|⟨e,_⟩|⟨e,_⟩|⟨e,_⟩
 ·omega
 ·exact e
 ·omega
 ·omega
 omega
def yL{c:aq}(h:b8 c): ∀(f g:Nat)(i:Nat),i<c.Z9.length->c.Z9.length<=i+f->c.Z9.length<=i+g->RP c f i=RP c g i
 |0,g,i,a,b,d=>by omega
 |f+1,0,i,a,b,d=>by omega
 | f+1,g+1,i,a,b,d=>by
   unfold RP
   congr 1
   cases o:c.Z9[i]? with
   |none=>rfl
   | some s=>
     simp only;split
     ·rename_i e;obtain⟨j,m,l⟩:=xw h o e.1 e.2;have:=bH h.toRight (aY m).1;rw[l,Mz];exact yL h f g j (by omega) (by omega) (by omega)
     split
     ·apply dX;intro k n;have:=bH h.toRight (aY n).1;exact yL h f g k (by omega) (by omega) (by omega)
     rfl
def I9(c:aq)(f i:Nat):RP c (f+1) i=i::match c.Z9[i]? with
 |some s=>if s.kind=1/\0<=s.initial then RP c f s.initial.toNat else if s.kind=2 then(av c i true).flatMap (RP c f) else []
 |none=>[]:=rfl
def K2{c:aq}(h:b8 c){i:Nat}{s:na}(e:c.Z9[i]? =some s):wd c i=i::if s.kind=1/\0<=s.initial then wd c s.initial.toNat else if s.kind=2 then(av c i true).flatMap (wd c) else []:=by
 have l:=(Ld.1 e).1;have k:=h.Z6;have b:=I9 c 39 i;rw[e]at b;simp only at b
 have f: ∀j,j∈av c i true->RP c 39 j=wd c j:=fun j d=>by
  have:=bH h.toRight (aY d).1;exact yL h 39 40 j (by omega) (by omega) (by omega)
 refine Eq.trans b (MS (List.cons i) ?_);by_cases q:s.kind=1/\0<=s.initial
 ·rw[Lj q,Lj q];obtain⟨j,d,g⟩:=xw h e q.1 q.2;rw[g,Mz];exact f j d
 rw[Lf q,Lf q];by_cases a:s.kind=2
 ·rw[Lj a,Lj a];exact dX f
 rw[Lf a,Lf a]
def nQ{a c:Type}{f:a->List c} : ∀ {l:List a},(∀x∈l,f x=[])->l.flatMap f=[]
 |[],_=>rfl
 | x::l,h=>by
   simp only[Ox];rw[h x (by simp),nQ fun y b=>h y (by simp[b])];rfl
def M'{d k:Type}{f:d->List k}{a:d} : ∀ {l:List d},l.Nodup->a∈l->(∀x∈l,x≠a->f x=[])->l.flatMap f=f a
 |[],_,c,_=>by simp at c
 | x::l,j,c,h=>by
   obtain⟨g,i⟩:=Nm.1 j;simp only[Ox];by_cases e:x=a
   ·subst e;rw[nQ fun y b=>h y (by simp[b]) fun e=>g (e ▸ b),Mw]
   rw[h x (by simp) e,Nz];exact M' i ((MI.1 c).resolve_left (N5 e)) fun y b=>h y (by simp[b])
def qp{c:aq}(h:b8 c){i:Nat}{s:na}(d:c.Z9[i]? =some s):wd c i=i::(av c i true).flatMap fun k=>if s.kind=2\/s.initial=(k:Nat) then wd c k else []:=by
 rw[K2 h d]
 congr 1
 rcases h.cases d with⟨e,⟨a,b⟩|⟨j,f,b⟩⟩|⟨e,a,_⟩|⟨e,a,_⟩|⟨e,a,_⟩
 ·rw[a,Lf (by omega),Lf (by omega)];rfl
 ·rw[Lj ⟨e,by omega⟩,b,Mz];rw[M' (bU c i true) f fun x _ g=>by rw[Lf];omega];rw[Lj (.inr rfl)]
 ·rw[Lf (by omega),Lj e];apply dX;intro k _;rw[Lj (.inl e)]
 ·rw[Lf (by omega),Lf (by omega),ll a];rfl
 rw[Lf (by omega),Lf (by omega),ll a];rfl
def HE{c:aq}(h:b8 c): ∀(n i m:Nat),i<c.Z9.length->c.Z9.length<=i+n->m∈wd c i->i<=m/\m<c.Z9.length
 |0,i,m,b,e,_=>by omega
 | n+1,i,m,b,e,a=>by
   obtain⟨s,f⟩:=gE b;rw[qp h f,MI,Nq]at a;rcases a with rfl|⟨k,d,a⟩
   ·exact⟨Lr _,b⟩
   have g:=bH h.toRight (aY d).1;split at a
   ·have:=HE h n k m (by omega) (by omega) a;omega
   simp at a
def yK{c:aq}(h:b8 c){i:Nat}(hi:i<c.Z9.length):i∈wd c i:=by
 obtain⟨s,a⟩:=gE hi;rw[qp h a];exact Om ..
def N'{c:aq}(h:b8 c): ∀(n i m:Nat),i<c.Z9.length->c.Z9.length<=i+n->m∈wd c i->m=i\/ ∃p s,p∈wd c i/\c.Z9[p]? =some s/\m∈av c p true/\(s.kind=2\/s.initial=(m:Nat))
 |0,i,m,b,r,_=>by omega
 | n+1,i,m,b,r,a=>by
   obtain⟨s,j⟩:=gE b;have g:=qp h j;rw[g,MI,Nq]at a;rcases a with rfl|⟨k,d,a⟩
   ·exact .inl rfl
   have u:=bH h.toRight (aY d).1;split at a
   ·rename_i e
    have f: ∀x,x∈wd c k->x∈wd c i:=fun x t=>by
     rw[g,MI,Nq];exact .inr ⟨k,d,by rw[Lj e];exact t⟩
    rcases N' h n k m (by omega) (by omega) a with rfl|⟨p,q,l,o⟩
    ·exact .inr ⟨i,s,yK h b,j,d,e⟩
    exact .inr ⟨p,q,f p l,o⟩
   simp at a
def Ec{c:aq}(h:b8 c): ∀(n i m:Nat)(s:na)(k:Nat),i<c.Z9.length->c.Z9.length<=i+n->m∈wd c i->c.Z9[m]? =some s->k∈av c m true->(s.kind=2\/s.initial=(k:Nat))->k∈wd c i
 |0,i,m,s,k,g,u,_,_,_,_=>by omega
 | n+1,i,m,s,k,g,u,a,b,d,e=>by
   obtain⟨q,o⟩:=gE g;have r:=qp h o;have t:=a;rw[r,MI,Nq]at a |-;rcases a with rfl|⟨j,l,a⟩
   ·rw[o]at b;cases b;have f:=bH h.toRight (aY d).1;exact .inr ⟨k,d,by rw[Lj e];exact yK h f.2⟩
   have f:=bH h.toRight (aY l).1;split at a
   ·rename_i p;exact .inr ⟨j,l,by rw[Lj p];exact Ec h n j m s k (by omega) (by omega) a b d e⟩
   simp at a
def DD{c:aq}(h:b8 c){i m:Nat}{s:na}(hi:i<c.Z9.length)(d:m∈wd c i)(e:c.Z9[m]? =some s){k:Nat}(a:k∈av c m true):k∈wd c i↔s.kind=2\/s.initial=(k:Nat):=by
 have t:=h.Z6;refine⟨fun j=> ?_,Ec h 40 i m s k hi (by omega) d e a⟩;have u:=bH h.toRight (aY a).1;have l:=HE h 40 i m hi (by omega) d;rcases N' h 40 i k hi (by omega) j with rfl|⟨p,q,r,b,f,g⟩
 ·omega
 have n:=(eC.1 (aY f).1).2;have o:=(eC.1 (aY a).1).2;have:p=m:=by omega
 subst this;rw[e]at b;cases b;exact g
def wn{c:aq}(h:b8 c){i m:Nat}(hi:i<c.Z9.length)(f:m∈wd c i)(a:m≠i): ∃p:Nat,aP c m=p/\p∈wd c i:=by
 have k:=h.Z6;rcases N' h 40 i m hi (by omega) f with e|⟨p,q,b,g,d,j⟩
 ·exact absurd e a
 exact⟨p,(eC.1 (aY d).1).2,b⟩
def Kz{c:aq}(h:b8 c){i:Nat}(hi:i<c.Z9.length):(zL (wd c i)).all (ed c)=true:=by
 have d:=h.Z6;rw[Lm];intro x b;obtain⟨k,a,rfl⟩:=Lp.1 b;exact aV.2 (HE h 40 i k hi (by omega) a).2
def Rq(c:aq)(i:Nat):List Nat:=bt c (zL (wd c i))
def Ip{c:aq}(h:b8 c){i:Nat}(hi:i<c.Z9.length){k:Nat} :k∈Rq c i↔k∈wd c i:=by
 unfold Rq;rw[AF h.toRight (Kz h hi),Lp];constructor
 ·rintro⟨j,a,e⟩;have:j=k:=by omega
  exact this ▸ a
 exact fun b=>⟨k,b,rfl⟩
def bx(act:List Int)(a:List Nat):Nat:=(a.filter fun k:Nat=>act.contains (k:Int)).length
def xt(act:List Int)(a:List Nat):bx act a<=a.length:=MF ..
def qx(c:aq)(act:List Int)(i:Nat)(s:na):Bool:=
 !aU s&&(decide (s.parent<0)||act.contains s.parent)&&
  (if s.kind=1/\av c i true≠[] then bx act (av c i true)==1 else if s.kind=2 then bx act (av c i true)==(av c i true).length else true)
def uk(c:aq)(act:List Int)(i:Int):Bool:=match at_ c i with
 |some s=>qx c act i.toNat s
 |none=>false
def uh(c:aq)(act:List Int)(n:Nat):Bool:=match act[n]? with
 |some i=>(n==0||decide (act.getD (n-1) 0<i))&&uk c act i
 |none=>true
def jz(c:aq)(act:List Int):Int×Int:=match bD (uh c act) act.length with
 |some n=>(1,max (act.getD n 0) (-1))
 |none=>if bx act (av c (-1) true)=1 then(0, -1) else(1, -1)
def rx(c:aq)(act:List Int):Bool:=(jz c act).1==0
def yZ{c:aq}{act:List Int} :rx c act=true↔(∀n,n<act.length->uh c act n=true)/\bx act (av c (-1) true)=1:=by
 unfold rx jz;cases h:bD (uh c act) act.length with
 | some n=>
   refine⟨fun e=>by simp at e,fun e=> ?_⟩;rw[bI e.1]at h;cases h
 | none=>
   simp only;split
   ·rename_i e;exact⟨fun _=>⟨fun n b=>cc h n b,e⟩,fun _=>rfl⟩
   rename_i e;exact⟨fun a=>by simp at a,fun a=>absurd a.2 e⟩
/-! What is active at first -/
def Fr(c:aq):Nat:=c.initial.toNat
def b8.topS{c:aq}(h:b8 c): ∃s,c.Z9[Fr c]? =some s/\c.initial=(Fr c:Nat)/\s.parent= -1/\(s.kind=1\/s.kind=2):=by
 have:=h.ini;unfold mO at this;cases a:at_ c c.initial with
 |none=>rw[a]at this;simp at this
 | some s=>
   rw[a]at this;unfold at_ at a;split at a
   ·rename_i b;refine⟨s,a,by unfold Fr;omega,?_⟩;simp only[eK,Li,Mh,Mx]at this;exact⟨this.1,this.2⟩
   cases a
def qk(c:aq):List Nat:=(List.range c.Z9.length).filter fun k=>decide (k∈Rq c (Fr c))
def jT{c:aq}(h:b8 c){k:Nat} :k∈qk c↔k∈wd c (Fr c):=by
 obtain⟨s,b,_⟩:=h.topS;have a:=(Ld.1 b).1;unfold qk;rw[Lq,MK,Lt,Ip h a];exact⟨fun e=>e.2,fun e=>⟨(HE h 40 _ k a (by have:=h.Z6;omega) e).2,e⟩⟩
def nY{l:List Nat}{k:Nat} :(zL l).contains (k:Int)=true↔k∈l:=by
 rw[Lk];unfold zL;rw[Lp];constructor
 ·rintro⟨j,a,b⟩;have:j=k:=by omega
  exact this ▸ a
 exact fun h=>⟨k,h,rfl⟩
def filter_one{d:Type} [DecidableEq d]{p:d->Bool}{a:d} : ∀ {l:List d},l.Nodup->a∈l->(∀x∈l,p x=true↔x=a)->l.filter p=[a]
 |[],_,h,_=>by simp at h
 | x::l,k,j,b=>by
   obtain⟨g,i⟩:=Nm.1 k;by_cases e:x=a
   ·subst e;rw[Na,Lj ((b x (by simp)).2 rfl),Nr.2 fun y (c:y∈l) f=>g ((b y (NJ _ c)).1 f ▸ c)]
   rw[Na,Lf fun f=>e ((b x (by simp)).1 f)];exact filter_one i ((MI.1 j).resolve_left (N5 e)) fun y c=>b y (NJ _ c)
def Bn{p:Nat->Bool}{n:Nat} :((List.range n).filter p).Pairwise (· < ·):=List.Pairwise.sublist My List.pairwise_lt_range
def KX{c:aq}{l:List Nat}(h:l.Pairwise (· < ·))(f: ∀k∈l,uk c (zL l) k=true)(i:bx (zL l) (av c (-1) true)=1):rx c (zL l)=true:=by
 rw[yZ];refine⟨fun n g=> ?_,i⟩;have a:n<l.length:=by simpa[zL]using g
 have e:(zL l)[n]? =some ((l[n]:Nat):Int):=by unfold zL;rw[Lo,Lc a];rfl
 unfold uh;rw[e];simp only[Li,Mx,Mh,Lt];refine⟨?_,f _ (N4 a)⟩;by_cases d:n=0
 ·exact .inl d
 right;have:=M6.1 h (n-1) n (by omega) a (by omega)
 have b:(zL l).getD (n-1) 0=((l[n-1]'(by omega):Nat):Int):=by
  unfold zL;rw[MJ,Lo,Lc (by omega)];rfl
 rw[b];omega
def Hq{l a:List Nat}(h: ∀k∈a,k∈l):bx (zL l) a=a.length:=by
 unfold bx;rw[List.filter_eq_self.2 fun k b=>nY.2 (h k b)]
def A8{l a:List Nat}{j:Nat}(d:a.Nodup)(b:j∈a)(h: ∀k∈a,k∈l↔k=j):bx (zL l) a=1:=by
 unfold bx;rw[filter_one d b fun k c=>nY.trans (h k c)];rfl
def KF{c:aq}(h:b8 c){i m:Nat}{t:na}(b:c.Z9[i]? =some t)(a:aU t=false)(j:m∈wd c i): ∃s,c.Z9[m]? =some s/\aU s=false:=by
 have g:=(Ld.1 b).1;rcases N' h 40 i m g (by have:=h.Z6;omega) j with rfl|⟨p,q,_,_,f,_⟩
 ·exact⟨t,b,a⟩
 obtain⟨_,s,d,e⟩:=aY f;exact⟨s,d,e⟩
def zb{c:aq}(h:b8 c):rx c (zL (qk c))=true:=by
 obtain⟨t,m,v,r,o⟩:=h.topS;have l:=(Ld.1 m).1
 have i:aU t=false:=by
  unfold aU;rcases o with e|e<;>rw[e]<;>rfl
 refine KX Bn (fun k y=> ?_) ?_
 ·have d:=(jT h).1 y;obtain⟨s,b,z⟩:=KF h m i d;unfold uk;rw[bL,b];simp only[Mz];unfold qx;rw[z,Li,Li];refine⟨⟨rfl,?_⟩,?_⟩
  ·rw[Mx,Lt];by_cases e:k=Fr c
   ·subst e;rw[m]at b;cases b;left;omega
   obtain⟨p,n,w⟩:=wn h l d e;rw[eA b]at n;right;rw[n];exact nY.2 ((jT h).2 w)
  have g: ∀j∈av c k true,(j∈qk c↔s.kind=2\/s.initial=(j:Nat)):=fun j f=>(jT h).trans (DD h l d b f);split
  ·rename_i e;rw[Mh];rcases h.cases b with⟨_,⟨a,_⟩|⟨j,f,a⟩⟩|⟨a,_⟩|⟨a,_⟩|⟨a,_⟩
   ·exact absurd a e.2
   ·exact A8 (bU ..) f fun x u=>(g x u).trans ⟨fun q=>q.elim (fun q=>by omega) fun q=>by omega,fun q=> .inr (by rw[q];exact a)⟩
   ·omega
   ·omega
   omega
  split
  ·rename_i e;rw[Mh];exact Hq fun j f=>(g j f).2 (.inl e)
  rfl
 refine A8 (j:=Fr c) (bU ..) (D6 m r i) fun x u=> ?_;rw[jT h];constructor
 ·intro d;by_cases e:x=Fr c
  ·exact e
  obtain⟨p,n,_⟩:=wn h l d e;have:=(eC.1 (aY u).1).2;omega
 rintro rfl;exact yK h l
/-! What begins is few -/
def JZ{c:aq}(h:b8 c): ∀(n i m:Nat),i<c.Z9.length->c.Z9.length<=i+n->m∈wd c i->m<c.Z9.length/\(m=i\/(i:Int)∈i' c m)
 |0,i,m,d,l,_=>by omega
 | n+1,i,m,d,l,a=>by
   obtain⟨s,o⟩:=gE d;rw[qp h o,MI,Nq]at a;rcases a with rfl|⟨k,f,a⟩
   ·exact⟨d, .inl rfl⟩
   have j:=bH h.toRight (aY f).1;have e:=(eC.1 (aY f).1).2;have b:(i:Int)∈i' c k:=(cn h.toRight (aV.2 j.2)).2 (.inl e.symm);split at a
   ·obtain⟨g,h2⟩:=JZ h n k m (by omega) (by omega) a;refine⟨g, .inr ?_⟩;rcases h2 with rfl|h2
    ·exact b
    exact iP h.toRight (m+1) m k i (by omega) h2 b
   simp at a
def BQ{c:aq}(h:b8 c): ∀(n i:Nat),i<c.Z9.length->c.Z9.length<=i+n->(wd c i).Nodup
 |0,i,w,y=>by omega
 | n+1,i,w,y=>by
   obtain⟨s,z⟩:=gE w;rw[qp h z,Nm]
   have f: ∀k∈av c i true,∀m,m∈(if s.kind=2\/s.initial=(k:Nat) then wd c k else [])->m<c.Z9.length/\(m=k\/(k:Int)∈i' c m):=fun k g m d=>by
    have v:=bH h.toRight (aY g).1;split at d
    ·exact JZ h n k m (by omega) (by omega) d
    simp at d
   refine⟨fun d=> ?_,?_⟩
   ·obtain⟨k,g,d⟩:=Nq.1 d;have v:=bH h.toRight (aY g).1;obtain⟨x,u⟩:=f k g i d;rcases u with e|e
    ·omega
    have:=jp h.toRight 40 _ _ e;omega
   have o:=bU c i true;rw[NU]at o;rw[NU,List.pairwise_flatMap];refine⟨fun k g=> ?_,?_⟩
   ·have v:=bH h.toRight (aY g).1;rw[<-NU];split
    ·exact BQ h n k (by omega) (by omega)
    exact .nil
   refine PU (R:=fun a b=>a≠b) ?_ o;intro A B j l t p q D r e;subst e;obtain⟨x,u⟩:=f A j p q;obtain⟨_,C⟩:=f B l p r;exact t (xu h.toRight (aY j).1 (aY l).1 (p+1) p (by omega) x u C)
def JN{c:aq}(h:b8 c){i:Nat}(hi:i<c.Z9.length):(wd c i).length<=32:=by
 have b:=h.Z6;have:=(BQ h 40 i hi (by omega)).length_le_of_subset (l₂:=List.range c.Z9.length) fun m a=>MK.2 (JZ h 40 i m hi (by omega) a).1;simp at this;omega
def DZ{c:aq}(h:b8 c)(i:Nat):(Rq c i).length<=32:=by
 have b:=h.Z6
 have:=(mQ h.toRight (zL (wd c i))).length_le_of_subset (l₂:=List.range c.Z9.length) fun m a=>by
  unfold bt at a;split at a
  ·exact MK.2 ((gJ h.toRight m).1 (Lq.1 a).1)
  simp at a
 unfold Rq;simp at this;omega
/-! The n-th ones -/
def mV(c:aq)(l:List Nat):List Nat:=(List.range c.Z9.length).filter fun k=>DH l (k:Int)
def lx{l:List Nat}{k:Nat} :DH l (k:Int)=true↔k∈l:=by
 rw[og];constructor
 ·rintro⟨j,a,b⟩;have:j=k:=by omega
  exact this ▸ a
 exact fun h=>⟨k,h,rfl⟩
/-! One more is none -/
attribute [go_sem] j0 nw fH Row.see AV.see AV.see.seeL Option.getD_none Option.getD_some List.any_cons List.any_nil
def L6:List (Nat×Nat):=[(1000,1000),(1001,1001),(1002,1002),(1003,1003),(1004,1004),(1005,1005)]
attribute [go_sem] L6
def OF{e:Nat->Bool}{a b:Nat}(h: ∀k∈[a,b],e k=false):e a=false/\e b=false:=by simpa using h
def Rl{e:Nat->Bool}{a b c:Nat}(h: ∀k∈[a,b,c],e k=false):e a=false/\e b=false/\e c=false:=by simpa using h
def Qc{e:Nat->Bool}{a b c d f g:Nat}(h: ∀k∈[a,b,c,d,f,g],e k=false):e a=false/\e b=false/\e c=false/\e d=false/\e f=false/\e g=false:=by simpa using h
def SM{e:Nat->Bool}{a b c d f g i:Nat}(h: ∀k∈[a,b,c,d,f,g,i],e k=false):e a=false/\e b=false/\e c=false/\e d=false/\e f=false/\e g=false/\e i=false:=by simpa using h
section
variable {P:Program} {env:b6} {nt:Nat} {Q:Exit->St->Prop} {s:St}
theorem SG{o:Oper}{f:FuncId}{args:List AV}{rest:List IS}{s1:St}{ft:fl}{K:St->List fl->Prop}{grown:Nat->Bool}{cs:(Nat->Nat)->List AV}{pre post:(Nat->Nat)->List (Nat×Row)}{res:(Nat->Nat)->AV}(L:List (Nat×Nat))(hcon:hU P env f (L.map (·.1)) grown cs pre post res)(k:i9 P env rest s1 fun s2 fts=>K s2 (ft::fts))(hc:bK env s.f o=some (f,args):=by exact rfl)(hk:(L.map (·.1)).Nodup:=by decide)(hr:(L.map (·.2)).Nodup:=by decide)
 (h1:AV.ren.renL (Qr (fF L)) args=cs (PT L s.vs):=by simp only[go_sem]<;>rfl)(h2:yi L s.rows (pre (PT L s.vs)):=by simp only[go_sem,Ls]<;>trivial)(he:yj s L:=by simp only[go_sem,Ls]<;>trivial)
 (h3: ∀o:Nat->Nat,qu L grown s.vs o (post o) (post fun _=>0) L:=by intro o;simp only[go_sem,g4,Ls]<;>trivial)(h4: ∀o:Nat->Nat,(res o).ren (sy (d8 L) o (CT L grown s.vs))=(res fun _=>0).ren (sy (d8 L) (fun _=>0) (CT L grown s.vs)):=by intro o;simp only[go_sem]<;>rfl)
 (h5:Is ((⟨(res fun _=>0).ren (sy (d8 L) (fun _=>0) (CT L grown s.vs)),L.map (lay grown (g4 L grown s.vs (post fun _=>0)))⟩:Out).app o.dst s) s1:=by simp only[go_sem,g4];exact iR)(h6:Is (⟨L.map (·.2),L.map (·.2),m9 (L.map (lay grown (g4 L grown s.vs (post fun _=>0)))),wc (L.map (lay grown (g4 L grown s.vs (post fun _=>0))))⟩:fl) ft:=by simp only[go_sem,g4];exact iR):i9 P env (⟨o, .always⟩::rest) s K:=i6 L hc hcon hk hr h1 h2 he h3 h4 h5 h6 k
theorem iL{o:Oper}{f:FuncId}{args:List AV}{rest:List IS}{s1:St}{ft:fl}{K:St->List fl->Prop}{grown:Nat->Bool}{cs:(Nat->Nat)->List AV}{pre post:(Nat->Nat)->List (Nat×Row)}{res:(Nat->Nat)->AV}(L:List (Nat×Nat))(hcon:hU P env f (L.map (·.1)) grown cs pre post res)(k:i9 P env rest s1 fun s2 fts=>K s2 (ft::fts))(hc:bK env s.f o=some (f,args):=by exact rfl)(hk:(L.map (·.1)).Nodup:=by decide)(hr:(L.map (·.2)).Nodup:=by decide)
 (h1:AV.ren.renL (Qr (fF L)) args=cs (PT L s.vs):=by simp only[go_sem,F]<;>rfl)(h2:yi L s.rows (pre (PT L s.vs)):=by simp only[go_sem,F,Ls]<;>trivial)(he:yj s L:=by simp only[go_sem,F,Ls]<;>trivial)
 (h3: ∀o:Nat->Nat,qu L grown s.vs o (post o) (post fun _=>0) L:=by intro o;simp only[go_sem,F,g4,Ls]<;>trivial)(h4: ∀o:Nat->Nat,(res o).ren (sy (d8 L) o (CT L grown s.vs))=(res fun _=>0).ren (sy (d8 L) (fun _=>0) (CT L grown s.vs)):=by intro o;simp only[go_sem,F]<;>rfl)
 (h5:Is ((⟨(res fun _=>0).ren (sy (d8 L) (fun _=>0) (CT L grown s.vs)),L.map (lay grown (g4 L grown s.vs (post fun _=>0)))⟩:Out).app o.dst s) s1:=by simp only[go_sem,F,g4];exact iR)(h6:Is (⟨L.map (·.2),L.map (·.2),m9 (L.map (lay grown (g4 L grown s.vs (post fun _=>0)))),wc (L.map (lay grown (g4 L grown s.vs (post fun _=>0))))⟩:fl) ft:=by simp only[go_sem,F,g4];exact iR):i9 P env (⟨o, .always⟩::rest) s K:=i6 L hc hcon hk hr h1 h2 he h3 h4 h5 h6 k
theorem R3{c:Code}{s1:St}{row:Row}{e:List AV}(r r2 i j:Nat)(ty:TypeId)(sz:Nat)(h:fk P env nt c Q s1)(hr:Is (s.rows r) (some row):=by simp only[go_sem];exact iR)(hi:row.es[i]? =some e:=by exact rfl)(hj:e[j]? =some (.lit (.slice none 0 0)):=by exact rfl)
 (h1:Is ((s.renew r2 ⟨sz,[],ty,true⟩ false).setRow r { row with es:=row.es.set i (e.set j (.row r2 (s.vs r2+1))) }) s1:=by simp only[go_sem];exact iR)(hne:r2≠r:=by decide)(hsz:0<sz:=by decide)(hrz:row.sz≠0:=by exact MZ _)(hp:row.pure=false:=by exact rfl):fk P env nt c Q s:=qP r r2 i j row e ty sz hne hsz hrz hp hi hj hr h1 h
theorem nC{c:Code}{s1:St}{row:Row}{e:List AV}(r r2 i j:Nat)(ty:TypeId)(sz:Nat)(h:fk P env nt c Q s1)(hr:Is (s.rows r) (some row):=by simp only[go_sem,F];exact iR)(hi:row.es[i]? =some e:=by exact rfl)(hj:e[j]? =some (.lit (.slice none 0 0)):=by exact rfl)
 (h1:Is ((s.renew r2 ⟨sz,[],ty,true⟩ false).setRow r { row with es:=row.es.set i (e.set j (.row r2 (s.vs r2+1))) }) s1:=by simp only[go_sem,F];exact iR)(hne:r2≠r:=by decide)(hsz:0<sz:=by decide)(hrz:row.sz≠0:=by exact MZ _)(hp:row.pure=false:=by exact rfl):fk P env nt c Q s:=qP r r2 i j row e ty sz hne hsz hrz hp hi hj hr h1 h
theorem rI{p:Prop}(h:p:=by
 refine aM ?_;try simp only[bB,ba, ↓reduceIte,Nat.reduceEqDiff,reduceCtorEq]
 refine rY ?_ ?_<;>simp only[go_sem,F,Pv,Ls,Qa,Pm,AV.tuple.injEq,PY,ne_eq]):p:=h
theorem rN{p:Prop}(h:p:=by refine H1 ?_ ?_<;>simp only[go_sem,F,Pv,Ls,Qa,Pm,AV.tuple.injEq,PY,ne_eq]):p:=h
theorem qi{f:FuncId}{fn:Func}{c:Code}{n:Nat}{rs:Array ResultVar}{ids:List Nat}{grown:Nat->Bool}{cs:(Nat->Nat)->List AV}{pre post:(Nat->Nat)->List (Nat×Row)}{res:(Nat->Nat)->AV}(hf:P.funcs[f]? =some fn)(hc: ∀(args:Array Value)(w:World),(callFunc f args).run P w= .ok (.enter f args) w)(hn:fn.ntmps=n)(hr:fn.results=rs)
 (h: ∀vs esc,(∀k∈ids,esc k=false)->fk P env n c (Ir P rs.toList ids grown vs post res) ⟨fun t=>(cs vs).getD t .any,ao (pre vs),vs,esc⟩)(hb:fn.body=some c:=by exact rfl)(hl: ∀vs,(cs vs).length<=n:=by intro _;simp):hU P env f ids grown cs pre post res:=⟨hc,fn,c,hf,hb,(by rw[hn];exact hl),(by rw[hn,hr];exact h)⟩
end
end
section
open Go.RowKit Go.Extern.Stop Go.Stop Go.Extern
end
section
open Go.RowKit
abbrev R6(k:Int):Array Value:= #[.string ⟨#[97]⟩, .int .i64 1, .int .i64 (-1), .int .i64 k, .slice none 0 0, .slice none 0 0, .string ⟨#[98]⟩, .int .i64 1, .int .i64 0, .int .i64 (-1), .slice none 0 0, .slice none 0 0]
def yR(w:World)(g:Nat)(k:Int):Prop:= ∀i v,(R6 k)[i]? =some v->w.cell? ⟨g,i,none⟩=some v
def yR.below{w a:World}{g:Nat}{k:Int}(h:yR w g k)(b:Below w.heap.size w a):yR a g k:=fun i v c=>sw (h i v c) b
def tI.all{env:b6}{S:Nat->Nat->Prop}{w:World}(h:tI env S w):tI env (fun b _=>b<w.heap.size) w:=⟨h.inv,fun _ _ h=>h,fun g c j=>by
 obtain⟨u,a,d,e,f⟩:=h.env g c j
 exact⟨u,a,d,h.low _ _ e,f.mono fun b o i=>⟨h.low _ _ i, .rfl⟩⟩⟩
def tI.belowA{env:b6}{w e:World}(h:tI env (fun b _=>b<w.heap.size) w)(a:Below w.heap.size w e):tI env (fun b _=>b<e.heap.size) e:=⟨env.up _ _ h.inv a,fun _ _ h=>h,fun g c l=>by
 obtain⟨u,f,i,j,k⟩:=h.env g c l
 exact⟨u,sw f a,i,NS j a.size,k.mono fun b o (d:b<_)=>⟨NS d a.size,a.stay d⟩⟩⟩
def I2{P:Program}{env:b6}{f:FuncId}{cs:List AV}{a:AV}{w:World}{vs:List Value}(h:b7 P env f cs a)(k:tI env (fun b _=>b<w.heap.size) w)(d: ∀e sz es,a≠ .own e sz es)(r:Sl (fun b _=>b<w.heap.size) w vs cs):
 Calls P f vs.toArray w fun e c=> ∃v,e= .returned v/\Below w.heap.size w c/\tI env (fun b _=>b<c.heap.size) c/\RV (fun b _=>b<c.heap.size) c v a:=by
 obtain⟨n,p⟩:=r.at_;refine(h.calls w _ vs k n p).mono ?_;rintro e c ⟨v,rfl,l,m,_,_,i,q⟩;refine⟨v,rfl,l,k.belowA l,?_⟩
 have j:RV m c v a:=by
  cases a with
  |own e sz es=>exact(d e sz es rfl).elim
  |_=>exact q
 exact j.mono fun b o g=>⟨i b o g, .rfl⟩
structure fq(env:b6)(a1 a8:Addr):Prop where
 e1:env 1=some (cf a1)
 e8:env 2=some (cf a8)
def iA(a b:Addr)(l:List lf)(vs ss:Int):AV:=if iM l vs ss=0 then h8 else if iM l vs ss=8 then fc (-1) (cf b) else fc (-1) (cf a)
def sr{l:List lf}(vs ss:Int)(h:32<l.length):iM l vs ss=8:=by unfold iM;rw[Lj h]
def wh{l:List lf}{vs ss:Int}(h: ¬32<l.length)(a:ql vs ss l 0=some 1):iM l vs ss=0:=by unfold iM;rw[Lf h,Lj a]
def oV{l:List lf}{vs ss:Int}(h: ¬32<l.length)(a:ql vs ss l 0≠some 1):iM l vs ss=1:=by unfold iM;rw[Lf h,Lf a]
def vS{vs ss n:Int}{o:lf}(h:cA vs ss n o=true): ¬aF o.kind<0/\ ¬n<aF o.kind/\mZ o vs ss=true:=by
 simp only[cA,Li,Lt]at h;exact⟨by omega,by omega,h.2⟩
def rT{vs ss n:Int}{o:lf}(h:cA vs ss n o=false):aF o.kind<0\/(¬aF o.kind<0/\n<aF o.kind)\/(¬aF o.kind<0/\ ¬n<aF o.kind/\mZ o vs ss=false):=by
 by_cases a:aF o.kind<0
 ·exact .inl a
 by_cases b:n<aF o.kind
 ·exact .inr (.inl ⟨a,b⟩)
 refine .inr (.inr ⟨a,b,?_⟩);have c:0<=aF o.kind:=by omega
 have d:aF o.kind<=n:=by omega
 simpa[cA,c,d]using h
def gd(env:b6)(a c:Addr)(v:fq env a c)(l:List lf)(vs ss:Int):b7 prog env 211 [qs l,I vs,I ss] (iA a c l vs ss):=by
 have m:=iH v.e1;have x:=iH v.e8;refine qf func211 call211 ntmps211 results211 ?_;by_cases q:32<l.length
 ·have t:(32:Int)<l.length:=by omega
  rw[show iA a c l vs ss=fc (-1) (cf c) by unfold iA;rw[sr vs ss q];rfl];have F:=ai t x;repeat (first|refine st ?_|refine cC (bh env _ c) ?_)
  exact aR
 have t: ¬(32:Int)<l.length:=by omega
 have F:=t;repeat refine st ?_
 refine lp (D:=Nat×Int) (fun d _=>[(1,I vs),(2,I ss),(7,I d.2),(16,qs l),(17,I l.length),(18,I d.1)]) (fun _ _=>[]) (fun d _ _=>d.1<=l.length/\ql vs ss l 0=ql vs ss (l.drop d.1) d.2/\0<=d.2/\d.2<=d.1) (fun d=>l.length-d.1) (0,0) ⟨Lx _,rfl,Po _,Po _⟩ ?_;rintro⟨i,n⟩ J w ⟨z,u,y,A⟩;simp only at z u y A;by_cases g:i<l.length
 ·obtain⟨o,p,_⟩:=aS g;obtain⟨E,C⟩:=oM p u;have h:=h9 g;have j:=aD g (by omega);have B:=ji o.kind;cases b:cA vs ss n o with
  | true=>
    obtain⟨f,k,r⟩:=vS b;have G:IntKind.i64.wrap (1-aF o.kind)=1-aF o.kind:=aW (by omega) (by omega);have H:IntKind.i64.wrap (n+(1-aF o.kind))=n+(1-aF o.kind):=aW (by omega) (by omega);have F:=pf h j p S1 f k r G H;repeat refine vb (fN env o.kind) (il env o vs ss) ?_
    refine⟨(i+1,n+(1-aF o.kind)),⟨by simp only;omega,?_,by simp only;omega,by simp only;omega⟩,?_,?_,?_⟩
    ·simp only;rw[E b]
     congr 1
     omega
    ·exact qe
    ·exact qe
    simp only;omega
  | false=>
    rw[show iA a c l vs ss=fc (-1) (cf a) by unfold iA;rw[oV q (by rw[C b];simp)];rfl];rcases rT b with f|⟨f,k⟩|⟨f,k,r⟩
    ·have F:=ip h j p S1 f m;repeat (first|refine st ?_|refine cC (fN env o.kind) ?_|refine cC (il env o vs ss) ?_|refine cC (bh env _ a) ?_)
     exact aR
    ·have F:=lP h j p S1 f k m;repeat (first|refine st ?_|refine cC (fN env o.kind) ?_|refine cC (il env o vs ss) ?_|refine cC (bh env _ a) ?_)
     exact aR
    have F:=ns h j p S1 f k r m;repeat (first|refine st ?_|refine cC (fN env o.kind) ?_|refine cC (il env o vs ss) ?_|refine cC (bh env _ a) ?_)
    exact aR
 have h: ¬(i:Int)< (l.length:Int):=by omega
 have e:=sS (by omega) u;by_cases s:n=1
 ·subst s;rw[show iA a c l vs ss=h8 by unfold iA;rw[wh q e];rfl];have F:=ai h m;repeat (first|refine st ?_|refine cC (bh env _ a) ?_)
  exact aR
 rw[show iA a c l vs ss=fc (-1) (cf a) by unfold iA;rw[oV q (by rw[e];simpa using s)];rfl];have j:(n != 1)=true:=by simpa using s
 have F:=fI h j m;repeat (first|refine st ?_|refine cC (bh env _ a) ?_)
 exact aR
def kS(env:b6)(l:List lf)(vs ss:Int):b7 prog env 152 [qs l,I vs,I ss] (I (iM l vs ss)):=by
 refine qf func152 call152 ntmps152 results152 ?_;by_cases k:32<l.length
 ·have q:(32:Int)<l.length:=by omega
  rw[sr vs ss k];have F:=q;exact dT
 have q: ¬(32:Int)<l.length:=by omega
 have F:=q;repeat refine st ?_
 refine lp (D:=Nat×Int) (fun d _=>[(0,qs l),(1,I vs),(2,I ss),(7,I d.2),(8,I d.1)]) (fun _ _=>[]) (fun d _ _=>d.1<=l.length/\ql vs ss l 0=ql vs ss (l.drop d.1) d.2/\0<=d.2/\d.2<=d.1) (fun d=>l.length-d.1) (0,0) ⟨Lx _,rfl,Po _,Po _⟩ ?_;rintro⟨i,n⟩ B s ⟨u,r,t,v⟩;simp only at u r t v;by_cases e:i<l.length
 ·obtain⟨o,j,_⟩:=aS e;obtain⟨y,x⟩:=oM j r;have f:=h9 e;have g:=aD e (by omega);have w:=ji o.kind;cases a:cA vs ss n o with
  | true=>
    obtain⟨c,h,m⟩:=vS a;have z:IntKind.i64.wrap (n-aF o.kind)=n-aF o.kind:=aW (by omega) (by omega);have A:IntKind.i64.wrap (n-aF o.kind+1)=n-aF o.kind+1:=aW (by omega) (by omega);have F:=pf f g j S1 c h m z A;repeat refine vb (de env o.kind) (ic env o vs ss) ?_
    refine⟨(i+1,n-aF o.kind+1),⟨by simp only;omega,y a,by simp only;omega,by simp only;omega⟩,?_,?_,?_⟩
    ·exact qe
    ·exact qe
    simp only;omega
  | false=>
    rw[oV k (by rw[x a];simp)];rcases rT a with c|⟨c,h⟩|⟨c,h,m⟩
    ·have F:=g7 f g j S1 c;exact m5 (de env o.kind) (ic env o vs ss)
    ·have F:=ip f g j S1 c h;exact m5 (de env o.kind) (ic env o vs ss)
    have F:=lP f g j S1 c h m;exact m5 (de env o.kind) (ic env o vs ss)
 have f: ¬(i:Int)< (l.length:Int):=by omega
 have b:=sS (by omega) r;by_cases p:n=1
 ·subst p;rw[wh k b];have F:=f;exact dT
 rw[oV k (by rw[b];simpa using p)];have g:(n != 1)=true:=by simpa using p
 have F:=ai f g;exact dT
end
end Go.Proofs.YtknkhdgfhbogdaaGreatDoor
