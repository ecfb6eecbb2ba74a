/- Steps of a walk that turns rows, each found by itself: F holds the facts at hand. -/
import Derived.Test.YtfhkmjbjafeckaaGreatDoorQ10
set_option linter.unusedSimpArgs false
set_option linter.defProp false
namespace Go.Proofs.YtfhkmjbjafeckaaGreatDoor
open Go.RowKit
section
def fi(c:aq)(i:Int):Bool:=decide (0<=i)&&decide (i<c.Z9.length)
def aP(c:aq)(i:Int):Int:=match at_ c i with
 |some s=>s.parent
 |none=> -1
def aI{c:aq}{i:Int} :fi c i=true↔0<=i/\i<c.Z9.length:=by
 unfold fi;rw[Mx,NI,NI]
def aW{c:aq}{k:Nat} :fi c k=true↔k<c.Z9.length:=by rw[aI];omega
def bK(c:aq)(k:Nat):at_ c k=c.Z9[k]? :=by unfold at_;rw[Mw (by omega),OP]
def dB{c:aq}{i:Int}(h:fi c i=true): ∃k s,i=(k:Nat)/\c.Z9[k]? =some s/\at_ c i=some s:=by
 obtain⟨b,d⟩:=aI.1 h;have a:i.toNat<c.Z9.length:=by omega
 refine⟨i.toNat,c.Z9[i.toNat],by omega,Ms a,?_⟩;unfold at_;rw[Mw b,Ms a]
def dZ{c:aq}(h:Right c){i:Int}(hi:fi c i=true): -1<=aP c i/\aP c i<i:=by
 obtain⟨k,s,rfl,a,b⟩:=dB hi;unfold aP;rw[b];exact h.par k s a
def eH{c:aq}{k:Nat}{s:n4}(h:c.Z9[k]? =some s):aP c k=s.parent:=by
 unfold aP;rw[bK,h]
/-! The way up -/
def Sh(c:aq):Nat->Int->List Int
 |0,_=>[]
 |f+1,i=>if fi c i=true then aP c i::Sh c f (aP c i) else []
def kf(c:aq)(i:Int):List Int:=Sh c 40 i
def kQ{c:aq}{i:Int}(h:fi c i=false)(f:Nat):Sh c f i=[]:=by
 cases f with
 |zero=>rfl
 |succ f=>unfold Sh;rw[h];simp
def Eu{c:aq}(h:Right c): ∀(f g:Nat)(i:Int),i<f->i<g->Sh c f i=Sh c g i
 | 0,g,i,d,e=>by
   have:fi c i=false:=by
    cases a:fi c i
    ·rfl
    have:=aI.1 a;omega
   rw[kQ this,kQ this]
 | f+1,g,i,d,e=>by
   cases a:fi c i with
   |false=>rw[kQ a,kQ a]
   | true=>
     have j:=(aI.1 a).1;obtain⟨b,rfl⟩: ∃b,g=b+1:=⟨g-1,by omega⟩;have:=dZ h a;unfold Sh;rw[a];simp only[Nn];rw[Eu h f b (aP c i) (by omega) (by omega)]
def cX{c:aq}{i:Int}(h:fi c i=false):kf c i=[]:=kQ h _
def sK{c:aq}(h:Right c){i:Int}(hi:fi c i=true):kf c i=aP c i::kf c (aP c i):=by
 have d:=h.Z6;have a:=aI.1 hi;have b:=dZ h hi;show Sh c (39+1) i=aP c i::Sh c 40 (aP c i);rw[show Sh c (39+1) i=if fi c i=true then aP c i::Sh c 39 (aP c i) else [] from rfl,Mw hi,Eu h 39 40 _ (by omega) (by omega)]
def kF{c:aq}(h:Right c): ∀(f:Nat)(i:Int)(k:Int),k∈Sh c f i-> -1<=k/\k<i
 |0,i,k,hk=>by simp[Sh]at hk
 | f+1,i,k,hk=>by
   cases a:fi c i with
   |false=>rw[kQ a]at hk;simp at hk
   | true=>
     have:=dZ h a;unfold Sh at hk;rw[a]at hk;simp only[Nn,NX]at hk;rcases hk with rfl|hk
     ·exact this
     have:=kF h f _ k hk;omega
def cv{c:aq}(h:Right c){i:Int}(hi:fi c i=true){k:Int} :k∈kf c i↔k=aP c i\/k∈kf c (aP c i):=by rw[sK h hi,NX]
def kZ{c:aq} : ∀(f:Nat)(i:Int),(Sh c f i).length<=f
 |0,i=>by simp[Sh]
 | f+1,i=>by
   unfold Sh;split
   ·have:=kZ (c:=c) f (aP c i);simp;omega
   simp
def sI{c:aq}(h:Right c): ∀(n:Nat)(i:Int),fi c i=true->i<n-> -1∈kf c i
 |0,i,a,b=>by have:=aI.1 a;omega
 | n+1,i,a,b=>by
   rw[cv h a];have f:=dZ h a;by_cases e:aP c i= -1
   ·exact .inl e.symm
   have d:=aI.1 a;exact .inr (sI h n _ (aI.2 (by omega)) (by omega))
def i7{c:aq}(h:Right c): ∀(n:Nat)(i j k:Int),i<n->j∈kf c i->k∈kf c j->k∈kf c i
 | 0,i,j,k,e,a,d=>by
   cases b:fi c i with
   |false=>rw[cX b]at a;simp at a
   |true=>have:=aI.1 b;omega
 | n+1,i,j,k,e,a,d=>by
   cases b:fi c i with
   |false=>rw[cX b]at a;simp at a
   | true=>
     rw[cv h b]at a |-;have f:=dZ h b;rcases a with rfl|a
     ·exact .inr d
     exact .inr (i7 h n _ j k (by omega) a d)
/-! What is above a state, as bits -/
def De(c:aq):Nat->Int->Nat
 |0,_=>0
 |f+1,i=>if fi c i=true then(if 0<=aP c i then De c f (aP c i)||| 2^(aP c i).toNat else 0) else 0
def ul{c:aq}(h:Right c): ∀(f:Nat)(i:Int)(k:Nat),(De c f i).testBit k=decide ((k:Int)∈Sh c f i)
 |0,i,k=>by simp[De,Sh]
 | f+1,i,k=>by
   unfold De Sh;cases b:fi c i with
   |false=>simp
   | true=>
     simp only[Nn];have l:=dZ h b;by_cases e:0<=aP c i
     ·rw[Mw e,Qs,ul h f,QI];by_cases a:(k:Int)=aP c i
      ·have:(aP c i).toNat=k:=by omega
       simp[a,this]
      have: ¬(aP c i).toNat=k:=by omega
      simp[a,this]
     rw[Mv e];have d:aP c i= -1:=by omega
     have j:fi c (-1)=false:=by
      cases g:fi c (-1)
      ·rfl
      have:=aI.1 g;omega
     rw[d,kQ j];simp
def pf(c:aq)(i:Int):Nat:=De c 40 i
def tK{c:aq}(h:Right c)(i:Int)(k:Nat):(pf c i).testBit k=decide ((k:Int)∈kf c i):=ul h 40 i k
def nR{c:aq}(h:Right c){i:Int}(hi:i<32):pf c i<2^32:=by
 apply Nat.lt_pow_two_of_testBit;intro k b;rw[tK h];simp only[Nw];intro a;have:=kF h 40 i k a;omega
def xC{c:aq}(h:Right c){i:Int}(hi:fi c i=true):pf c i=if 0<=aP c i then pf c (aP c i)||| 2^(aP c i).toNat else 0:=by
 apply Nat.eq_of_testBit_eq;intro k;have g:=dZ h hi;rw[tK h,sK h hi];by_cases e:0<=aP c i
 ·rw[Mw e,Qs,tK h,QI];by_cases a:(k:Int)=aP c i
  ·have:(aP c i).toNat=k:=by omega
   simp[a,this]
  have: ¬(aP c i).toNat=k:=by omega
  simp[a,this]
 rw[Mv e];have b:aP c i= -1:=by omega
 have f:fi c (-1)=false:=by
  cases d:fi c (-1)
  ·rfl
  have:=aI.1 d;omega
 rw[b,cX f];simp
def d5{a c:Type}{f g:a->List c} : ∀ {l:List a},(∀x∈l,f x=g x)->l.flatMap f=l.flatMap g
 |[],_=>rfl
 | x::l,h=>by
   simp only[QZ];rw[h x (by simp),d5 fun y b=>h y (by simp[b])]
/-! The walk -/
def rM(c:aq):Nat->Int->List Nat
 |0,_=>[]
 |f+1,i=>(av c i false).flatMap fun k=>k::rM c f k
def g7(c:aq)(i:Int):List Nat:=rM c 40 i
def eJ{c:aq}{i:Int}{k:Nat} :k∈av c i false↔k<c.Z9.length/\aP c k=i:=by
 unfold av bg;rw[NF,NZ];constructor
 ·rintro⟨b,a⟩;obtain⟨s,d⟩:=gE b;refine⟨b,?_⟩;unfold dM at a;rw[d]at a;rw[eH d];simpa using a
 rintro⟨b,a⟩;obtain⟨s,d⟩:=gE b;refine⟨b,?_⟩;unfold dM;rw[d];rw[eH d]at a;simp[a]
def bV(c:aq)(i:Int)(a:Bool):(av c i a).Nodup:=Qn OT List.nodup_range
def aY{c:aq}{i:Int}{k:Nat}(h:k∈av c i true):k∈av c i false/\ ∃s,c.Z9[k]? =some s/\aU s=false:=by
 unfold av bg at h |-;rw[NF]at h |-;obtain⟨d,a⟩:=h;unfold dM at a |-;cases b:c.Z9[k]? with
 |none=>rw[b]at a;cases a
 | some s=>
   rw[b]at a;simp at a |-;exact⟨⟨by simpa using d,a.1⟩,a.2⟩
def bF{c:aq}(h:Right c){i:Int}{k:Nat}(b:k∈av c i false):i<k/\k<c.Z9.length:=by
 obtain⟨a,d⟩:=eJ.1 b;have:=dZ h (aW.2 a);omega
def GG{c:aq}(h:Right c): ∀(f g:Nat)(i:Int),(c.Z9.length:Int)<=i+f->(c.Z9.length:Int)<=i+g->rM c f i=rM c g i:=by
 have none: ∀(g:Nat)(i:Int),(c.Z9.length:Int)<=i->rM c g i=[]:=fun g i j=>by
  cases g with
  |zero=>rfl
  | succ g=>
    unfold rM;have:av c i false=[]:=PQ.2 fun k a=>by have:=bF h a;omega
    rw[this];rfl
 intro f
 induction f with
 |zero=>intro g i b d;rw[none g i (by omega)];rfl
 | succ f e=>
   intro g i b d;cases g with
   |zero=>rw[none (f+1) i (by omega)];rfl
   | succ g=>
     unfold rM;apply d5;intro k a;have:=bF h a;rw[e g k (by omega) (by omega)]
def DQ{c:aq}(h:Right c){i:Int}(_hi: -1<=i):g7 c i=(av c i false).flatMap fun k=>k::g7 c k:=by
 have b:=h.Z6;show (av c i false).flatMap (fun k=>k::rM c 39 k)=_;apply d5;intro k a;have:=bF h a;rw[show rM c 39 k=g7 c k from GG h 39 40 k (by omega) (by omega)]
def ja{c:aq}(h:Right c): ∀(n:Nat)(i:Int)(m:Nat), -1<=i->(c.Z9.length:Int)<=i+n->(m∈g7 c i↔m<c.Z9.length/\i∈kf c m)
 | 0,i,m,o,w=>by
   rw[DQ h o];have:av c i false=[]:=PQ.2 fun k b=>by have:=bF h b;omega
   rw[this];simp only[Rx,List.not_mem_nil,false_iff,not_and];intro j l;have:=kF h 40 m i l;omega
 | n+1,i,m,o,w=>by
   rw[DQ h o,PR];constructor
   ·rintro⟨k,b,hm⟩;have v:=bF h b;obtain⟨r,t⟩:=eJ.1 b;rcases NX.1 hm with rfl|hm
    ·exact⟨r,(cv h (aW.2 r)).2 (.inl t.symm)⟩
    obtain⟨C,D⟩:=(ja h n k m (by omega) (by omega)).1 hm;refine⟨C,i7 h 40 m k i (by have:=h.Z6;omega) D ((cv h (aW.2 r)).2 (.inl t.symm))⟩
   rintro⟨j,l⟩
   have s: ∀(d:Nat)(m:Nat),m<d->m<c.Z9.length->i∈kf c m-> ∃k∈av c i false,m=k\/(k:Int)∈kf c m:=fun d=>by
    induction d with
    |zero=>intro m u;omega
    | succ d B=>
      intro m u hm z;have f:=aW.2 hm;rcases (cv h f).1 z with e|e
      ·exact⟨m,eJ.2 ⟨hm,e.symm⟩, .inl rfl⟩
      have x:=dZ h f
      have E:0<=aP c m:=by
       rcases Qu (aP c m) 0 with q|q
       ·have A:fi c (aP c m)=false:=by
         cases y:fi c (aP c m)
         ·rfl
         have:=aI.1 y;omega
        rw[cX A]at e;simp at e
       exact q
      obtain⟨p,g⟩: ∃p:Nat,aP c m=p:=⟨(aP c m).toNat,by omega⟩;rw[g]at e x;obtain⟨k,b,a⟩:=B p (by omega) (by omega) e;refine⟨k,b, .inr ((cv h f).2 ?_)⟩;rw[g];rcases a with rfl|a
      ·exact .inl rfl
      exact .inr a
   obtain⟨k,b,a⟩:=s (m+1) m (by omega) j l;have v:=bF h b;refine⟨k,b,NX.2 ?_⟩;rcases a with e|e
   ·exact .inl e
   exact .inr ((ja h n k m (by omega) (by omega)).2 ⟨j,e⟩)
def gS{c:aq}(h:Right c)(m:Nat):m∈g7 c (-1)↔m<c.Z9.length:=by
 rw[ja h 40 (-1) m (by omega) (by have:=h.Z6;omega)];exact⟨fun h=>h.1,fun a=>⟨a,sI h (m+1) m (aW.2 a) (by omega)⟩⟩
def zH{c:aq}(h:Right c){i:Int}{g j:Nat}(u:g∈av c i false)(v:j∈av c i false): ∀(d m:Nat),m<d->m<c.Z9.length->(m=g\/(g:Int)∈kf c m)->(m=j\/(j:Int)∈kf c m)->g=j:=by
 obtain⟨l,o⟩:=eJ.1 u;obtain⟨n,r⟩:=eJ.1 v
 have t: ∀ {x y:Nat},x<c.Z9.length->aP c x=i->y<c.Z9.length->aP c y=i-> ¬(y:Int)∈kf c x:=fun {x y} s G B H k=>by
  have I:=dZ h (aW.2 s);have J:=dZ h (aW.2 B);rcases (cv h (aW.2 s)).1 k with e|e
  ·omega
  have:=kF h 40 _ _ e;omega
 intro d
 induction d with
 |zero=>intro m w;omega
 | succ d D=>
   intro m w k e1 a;rcases e1 with rfl|e1
   ·rcases a with rfl|a
    ·rfl
    exact absurd a (t l o n r)
   rcases a with rfl|a
   ·exact absurd e1 (t n r l o)
   have b:=aW.2 k;have z:=dZ h b
   have E:0<=aP c m:=by
    rcases Qu (aP c m) 0 with q|q
    ·have C:fi c (aP c m)=false:=by
      cases A:fi c (aP c m)
      ·rfl
      have:=aI.1 A;omega
     rw[cv h b,cX C]at e1;rcases e1 with e|e
     ·omega
     simp at e
    exact q
   obtain⟨p,f⟩: ∃p:Nat,aP c m=p:=⟨(aP c m).toNat,by omega⟩;rw[cv h b,f]at e1 a;rw[f]at z;exact D p (by omega) (by omega) (by rcases e1 with e|e;exact .inl (by omega);exact .inr e) (by rcases a with e|e;exact .inl (by omega);exact .inr e)
def kC{c:aq}(h:Right c): ∀(n:Nat)(i:Int), -1<=i->(c.Z9.length:Int)<=i+n->(g7 c i).Nodup
 | 0,i,p,w=>by
   rw[DQ h p];have:av c i false=[]:=PQ.2 fun k d=>by have:=bF h d;omega
   rw[this];simp
 | n+1,i,p,w=>by
   rw[DQ h p]
   have l: ∀k∈av c i false,∀m,m∈k::g7 c k->m<c.Z9.length/\(m=k\/(k:Int)∈kf c m):=fun k d m hm=>by
    have v:=bF h d;rcases NX.1 hm with rfl|hm
    ·exact⟨v.2, .inl rfl⟩
    obtain⟨t,u⟩:=(ja h n k m (by omega) (by omega)).1 hm;exact⟨t, .inr u⟩
   have j:=bV c i false;rw[Od]at j;rw[Od,List.pairwise_flatMap];refine⟨fun k d=> ?_,?_⟩
   ·rw[<-Od,PN];have v:=bF h d;refine⟨fun hm=> ?_,kC h n k (by omega) (by omega)⟩;have:=(ja h n k k (by omega) (by omega)).1 hm;have:=kF h 40 _ _ this.2;omega
   refine Qh (R:=fun a b=>a≠b) ?_ j;intro x y f g s o q A r e;subst e;obtain⟨t,u⟩:=l x f o q;obtain⟨_,z⟩:=l y g o r;exact s (zH h f g (o+1) o (by omega) t u z)
/-! Sorting by the walk -/
def b7(c:aq)(l:List Int):List Nat:=if l.all (fi c)=true then(g7 c (-1)).filter fun k=>l.contains (k:Int) else []
def BU{c:aq}(h:Right c){l:List Int}(b:l.all (fi c)=true){k:Nat} :k∈b7 c l↔(k:Int)∈l:=by
 unfold b7;rw[Mw b,NF,gS h];simp only[Mz];refine⟨fun h=>h.2,fun a=>⟨aW.1 (NB.1 b _ a),a⟩⟩
def kH{c:aq}(h:Right c)(l:List Int):(b7 c l).Nodup:=by
 unfold b7;split
 ·exact Qn OT (kC h 40 (-1) (by omega) (by have:=h.Z6;omega))
 simp
end
section
structure ct(c:aq):Prop extends Right c where
 st: ∀(k:Nat)(s:n4),c.Z9[k]? =some s->cL c k s=true
 tr: ∀(k:Nat)(t:tS),c.trans[k]? =some t->d9 c t=true
 ini:nD c=true
 ZO:c.trans.length<=64
def Sk{c:aq}(h:(n9 c).1=0):ct c:=by
 refine⟨B6 h,?_,?_,?_,?_⟩<;>
 ·unfold n9 at h;split at h
  ·simp at h
  rename_i g;split at h
  ·simp at h
  split at h
  ·simp at h
  split at h
  ·simp at h
  rename_i d;split at h
  ·simp at h
  rename_i e;split at h
  ·simp at h
  rename_i f
  first
   |(intro k s a
     have:=cg d k (Mt.1 a).1;unfold lz at this;rw[a]at this
     exact this)
   |(intro k t b
     have:=cg f k (Mt.1 b).1;unfold r6 at this;rw[b]at this
     exact this)
   |(simpa using e)
   |omega
def ct.shape{c:aq}(h:ct c){k:Nat}{s:n4}(a:c.Z9[k]? =some s):dK c k s=true:=by
 have:=h.st k s a;simp only[cL,Mx]at this;exact this.1.1.2
def pW{l:List Nat}{n:Int} :D' l n=true↔ ∃k∈l,(k:Int)=n:=by
 unfold D';rw[OG];simp
def ct.cases{c:aq}(h:ct c){k:Nat}{s:n4}(g:c.Z9[k]? =some s):
 (s.kind=1/\((av c k true=[]/\s.initial= -1)\/ ∃j∈av c k true,s.initial=(j:Nat)))\/(s.kind=2/\s.initial= -1/\av c k true≠[]/\ ∀j∈av c k true,az c j=true)\/
  (s.kind=3/\av c k false=[]/\s.initial= -1)\/((s.kind=4\/s.kind=5)/\av c k false=[]/\cw c s=true/\D' (av c s.parent true) s.initial=true):=by
 have a:=h.shape g;unfold dK at a;split at a
 ·rename_i e;refine .inl ⟨e,?_⟩;split at a
  ·rename_i b;exact .inl ⟨b,by simpa using a⟩
  obtain⟨j,f,d⟩:=pW.1 a;exact .inr ⟨j,f,d.symm⟩
 split at a
 ·rename_i e;simp only[Mx,NI,OQ,NB]at a;exact .inr (.inl ⟨e,a.2,fun b=>by rw[b]at a;simp at a,a.1.1⟩)
 split at a
 ·rename_i e;simp only[Mx,OQ]at a;exact .inr (.inr (.inl ⟨e,by simpa using a.1.1.1,a.1.2⟩))
 split at a
 ·rename_i e;simp only[Mx,OQ]at a;exact .inr (.inr (.inr ⟨e,by simpa using a.1.1.1.1,a.1.1.1.2,a.1.1.2⟩))
 cases a
def kU{c:aq}{i:Int}(h:av c i false=[]):av c i true=[]:=by
 apply PQ.2;intro k a;have:=(aY a).1;rw[h]at this;simp at this
abbrev zL(l:List Nat):List Int:=l.map fun k:Nat=>(k:Int)
/-! What begins with a state -/
def Ty(c:aq):Nat->Nat->List Nat
 |0,_=>[]
 | f+1,i=>i::match c.Z9[i]? with
   |some s=>if s.kind=1/\0<=s.initial then Ty c f s.initial.toNat else if s.kind=2 then(av c i true).flatMap (Ty c f) else []
   |none=>[]
def tI(c:aq)(i:Nat):List Nat:=Ty c 40 i
def zJ{c:aq}(h:ct c){i:Nat}{s:n4}(a:c.Z9[i]? =some s)(d:s.kind=1)(b:0<=s.initial): ∃j∈av c i true,s.initial=(j:Nat):=by
 rcases h.cases a with⟨_,⟨_,e⟩|e⟩|⟨e,_⟩|⟨e,_⟩|⟨e,_⟩
 ·omega
 ·exact e
 ·omega
 ·omega
 omega
def zZ{c:aq}(h:ct c): ∀(f g:Nat)(i:Nat),i<c.Z9.length->c.Z9.length<=i+f->c.Z9.length<=i+g->Ty c f i=Ty c g i
 |0,g,i,a,b,d=>by omega
 |f+1,0,i,a,b,d=>by omega
 | f+1,g+1,i,a,b,d=>by
   unfold Ty
   congr 1
   cases o:c.Z9[i]? with
   |none=>rfl
   | some s=>
     simp only;split
     ·rename_i e;obtain⟨j,m,l⟩:=zJ h o e.1 e.2;have:=bF h.toRight (aY m).1;rw[l,OP];exact zZ h f g j (by omega) (by omega) (by omega)
     split
     ·apply d5;intro k n;have:=bF h.toRight (aY n).1;exact zZ h f g k (by omega) (by omega) (by omega)
     rfl
def Js(c:aq)(f i:Nat):Ty c (f+1) i=i::match c.Z9[i]? with
 |some s=>if s.kind=1/\0<=s.initial then Ty c f s.initial.toNat else if s.kind=2 then(av c i true).flatMap (Ty c f) else []
 |none=>[]:=rfl
def Lu{c:aq}(h:ct c){i:Nat}{s:n4}(e:c.Z9[i]? =some s):tI c i=i::if s.kind=1/\0<=s.initial then tI c s.initial.toNat else if s.kind=2 then(av c i true).flatMap (tI c) else []:=by
 have l:=(Mt.1 e).1;have k:=h.Z6;have b:=Js c 39 i;rw[e]at b;simp only at b
 have f: ∀j,j∈av c i true->Ty c 39 j=tI c j:=fun j d=>by
  have:=bF h.toRight (aY d).1;exact zZ h 39 40 j (by omega) (by omega) (by omega)
 refine Eq.trans b (N7 (List.cons i) ?_);by_cases q:s.kind=1/\0<=s.initial
 ·rw[Mw q,Mw q];obtain⟨j,d,g⟩:=zJ h e q.1 q.2;rw[g,OP];exact f j d
 rw[Mv q,Mv q];by_cases a:s.kind=2
 ·rw[Mw a,Mw a];exact d5 f
 rw[Mv a,Mv a]
def oR{a c:Type}{f:a->List c} : ∀ {l:List a},(∀x∈l,f x=[])->l.flatMap f=[]
 |[],_=>rfl
 | x::l,h=>by
   simp only[QZ];rw[h x (by simp),oR fun y b=>h y (by simp[b])];rfl
def O'{d k:Type}{f:d->List k}{a:d} : ∀ {l:List d},l.Nodup->a∈l->(∀x∈l,x≠a->f x=[])->l.flatMap f=f a
 |[],_,c,_=>by simp at c
 | x::l,j,c,h=>by
   obtain⟨g,i⟩:=PN.1 j;simp only[QZ];by_cases e:x=a
   ·subst e;rw[oR fun y b=>h y (by simp[b]) fun e=>g (e ▸ b),OM]
   rw[h x (by simp) e,PY];exact O' i ((NX.1 c).resolve_left (Oq e)) fun y b=>h y (by simp[b])
def mr{c:aq}(h:ct c){i:Nat}{s:n4}(d:c.Z9[i]? =some s):tI c i=i::(av c i true).flatMap fun k=>if s.kind=2\/s.initial=(k:Nat) then tI c k else []:=by
 rw[Lu h d]
 congr 1
 rcases h.cases d with⟨e,⟨a,b⟩|⟨j,f,b⟩⟩|⟨e,a,_⟩|⟨e,a,_⟩|⟨e,a,_⟩
 ·rw[a,Mv (by omega),Mv (by omega)];rfl
 ·rw[Mw ⟨e,by omega⟩,b,OP];rw[O' (bV c i true) f fun x _ g=>by rw[Mv];omega];rw[Mw (.inr rfl)]
 ·rw[Mv (by omega),Mw e];apply d5;intro k _;rw[Mw (.inl e)]
 ·rw[Mv (by omega),Mv (by omega),kU a];rfl
 rw[Mv (by omega),Mv (by omega),kU a];rfl
def I0{c:aq}(h:ct c): ∀(n i m:Nat),i<c.Z9.length->c.Z9.length<=i+n->m∈tI c i->i<=m/\m<c.Z9.length
 |0,i,m,b,e,_=>by omega
 | n+1,i,m,b,e,a=>by
   obtain⟨s,f⟩:=gE b;rw[mr h f,NX,PR]at a;rcases a with rfl|⟨k,d,a⟩
   ·exact⟨ND _,b⟩
   have g:=bF h.toRight (aY d).1;split at a
   ·have:=I0 h n k m (by omega) (by omega) a;omega
   simp at a
def zY{c:aq}(h:ct c){i:Nat}(hi:i<c.Z9.length):i∈tI c i:=by
 obtain⟨s,a⟩:=gE hi;rw[mr h a];exact QQ ..
def PB{c:aq}(h:ct c): ∀(n i m:Nat),i<c.Z9.length->c.Z9.length<=i+n->m∈tI c i->m=i\/ ∃p s,p∈tI c i/\c.Z9[p]? =some s/\m∈av c p true/\(s.kind=2\/s.initial=(m:Nat))
 |0,i,m,b,r,_=>by omega
 | n+1,i,m,b,r,a=>by
   obtain⟨s,j⟩:=gE b;have g:=mr h j;rw[g,NX,PR]at a;rcases a with rfl|⟨k,d,a⟩
   ·exact .inl rfl
   have u:=bF h.toRight (aY d).1;split at a
   ·rename_i e
    have f: ∀x,x∈tI c k->x∈tI c i:=fun x t=>by
     rw[g,NX,PR];exact .inr ⟨k,d,by rw[Mw e];exact t⟩
    rcases PB h n k m (by omega) (by omega) a with rfl|⟨p,q,l,o⟩
    ·exact .inr ⟨i,s,zY h b,j,d,e⟩
    exact .inr ⟨p,q,f p l,o⟩
   simp at a
def Fu{c:aq}(h:ct c): ∀(n i m:Nat)(s:n4)(k:Nat),i<c.Z9.length->c.Z9.length<=i+n->m∈tI c i->c.Z9[m]? =some s->k∈av c m true->(s.kind=2\/s.initial=(k:Nat))->k∈tI c i
 |0,i,m,s,k,g,u,_,_,_,_=>by omega
 | n+1,i,m,s,k,g,u,a,b,d,e=>by
   obtain⟨q,o⟩:=gE g;have r:=mr h o;have t:=a;rw[r,NX,PR]at a |-;rcases a with rfl|⟨j,l,a⟩
   ·rw[o]at b;cases b;have f:=bF h.toRight (aY d).1;exact .inr ⟨k,d,by rw[Mw e];exact zY h f.2⟩
   have f:=bF h.toRight (aY l).1;split at a
   ·rename_i p;exact .inr ⟨j,l,by rw[Mw p];exact Fu h n j m s k (by omega) (by omega) a b d e⟩
   simp at a
def EU{c:aq}(h:ct c){i m:Nat}{s:n4}(hi:i<c.Z9.length)(d:m∈tI c i)(e:c.Z9[m]? =some s){k:Nat}(a:k∈av c m true):k∈tI c i↔s.kind=2\/s.initial=(k:Nat):=by
 have t:=h.Z6;refine⟨fun j=> ?_,Fu h 40 i m s k hi (by omega) d e a⟩;have u:=bF h.toRight (aY a).1;have l:=I0 h 40 i m hi (by omega) d;rcases PB h 40 i k hi (by omega) j with rfl|⟨p,q,r,b,f,g⟩
 ·omega
 have n:=(eJ.1 (aY f).1).2;have o:=(eJ.1 (aY a).1).2;have:p=m:=by omega
 subst this;rw[e]at b;cases b;exact g
def yB{c:aq}(h:ct c){i m:Nat}(hi:i<c.Z9.length)(f:m∈tI c i)(a:m≠i): ∃p:Nat,aP c m=p/\p∈tI c i:=by
 have k:=h.Z6;rcases PB h 40 i m hi (by omega) f with e|⟨p,q,b,g,d,j⟩
 ·exact absurd e a
 exact⟨p,(eJ.1 (aY d).1).2,b⟩
def MV{c:aq}(h:ct c){i:Nat}(hi:i<c.Z9.length):(zL (tI c i)).all (fi c)=true:=by
 have d:=h.Z6;rw[NB];intro x b;obtain⟨k,a,rfl⟩:=NG.1 b;exact aW.2 (I0 h 40 i k hi (by omega) a).2
def Se(c:aq)(i:Nat):List Nat:=b7 c (zL (tI c i))
def Ec{c:aq}(h:ct c){i:Nat}(hi:i<c.Z9.length){k:Nat} :k∈Se c i↔k∈tI c i:=by
 unfold Se;rw[BU h.toRight (MV h hi),NG];constructor
 ·rintro⟨j,a,e⟩;have:j=k:=by omega
  exact this ▸ a
 exact fun b=>⟨k,b,rfl⟩
def BX{c:aq}(h:ct c){i:Nat}{s:n4}(g:c.Z9[i]? =some s)(j:aU s=true):Se c i=[i]:=by
 have q:=(Mt.1 g).1
 have p:tI c i=[i]:=by
  rw[mr h g];unfold aU at j;simp only[OO,OQ]at j;rcases h.cases g with⟨e,_⟩|⟨e,_⟩|⟨e,_⟩|⟨e,m,_⟩
  ·omega
  ·omega
  ·omega
  rw[kU m];rfl
 have f:=kH h.toRight (zL (tI c i));have d: ∀k,k∈Se c i↔k=i:=fun k=>by rw[Ec h q,p,NP]
 have f:(Se c i).Nodup:=f;generalize Se c i=l at f d
 match l,f,d with
 |[],_,d=>have:=(d i).2 rfl;simp at this
 |[a],_,d=>rw[(d a).1 (by simp)]
 | a::b::l,f,d=>
   have n:=(d a).1 (by simp);have o:=(d b).1 (by simp);rw[n,o]at f;simp at f
end
section
def ch(act:List Int)(a:List Nat):Nat:=(a.filter fun k:Nat=>act.contains (k:Int)).length
def zD(act:List Int)(a:List Nat):ch act a<=a.length:=NV ..
def zO(c:aq)(act:List Int)(i:Nat)(s:n4):Bool:=
 !aU s&&(decide (s.parent<0)||act.contains s.parent)&&
  (if s.kind=1/\av c i true≠[] then ch act (av c i true)==1 else if s.kind=2 then ch act (av c i true)==(av c i true).length else true)
def vn(c:aq)(act:List Int)(i:Int):Bool:=match at_ c i with
 |some s=>zO c act i.toNat s
 |none=>false
def zG(c:aq)(act:List Int)(n:Nat):Bool:=match act[n]? with
 |some i=>(n==0||decide (act.getD (n-1) 0<i))&&vn c act i
 |none=>true
def rX(c:aq)(act:List Int):Int×Int:=match bE (zG c act) act.length with
 |some n=>(1,max (act.getD n 0) (-1))
 |none=>if ch act (av c (-1) true)=1 then(0, -1) else(1, -1)
def tU(c:aq)(act:List Int):Bool:=(rX c act).1==0
def zp{c:aq}{act:List Int} :tU c act=true↔(∀n,n<act.length->zG c act n=true)/\ch act (av c (-1) true)=1:=by
 unfold tU rX;cases h:bE (zG c act) act.length with
 | some n=>
   refine⟨fun e=>by simp at e,fun e=> ?_⟩;rw[bT e.1]at h;cases h
 | none=>
   simp only;split
   ·rename_i e;exact⟨fun _=>⟨fun n b=>cg h n b,e⟩,fun _=>rfl⟩
   rename_i e;exact⟨fun a=>by simp at a,fun a=>absurd a.2 e⟩
/-! What is active at first -/
def Es(c:aq):Nat:=c.initial.toNat
def ct.topS{c:aq}(h:ct c): ∃s,c.Z9[Es c]? =some s/\c.initial=(Es c:Nat)/\s.parent= -1/\(s.kind=1\/s.kind=2):=by
 have:=h.ini;unfold nD at this;cases a:at_ c c.initial with
 |none=>rw[a]at this;simp at this
 | some s=>
   rw[a]at this;unfold at_ at a;split at a
   ·rename_i b;refine⟨s,a,by unfold Es;omega,?_⟩;simp only[eQ,Mx,OQ,OO]at this;exact⟨this.1,this.2⟩
   cases a
def rf(c:aq):List Nat:=(List.range c.Z9.length).filter fun k=>decide (k∈Se c (Es c))
def j6{c:aq}(h:ct c){k:Nat} :k∈rf c↔k∈tI c (Es c):=by
 obtain⟨s,b,_⟩:=h.topS;have a:=(Mt.1 b).1;unfold rf;rw[NF,NZ,NI,Ec h a];exact⟨fun e=>e.2,fun e=>⟨(I0 h 40 _ k a (by have:=h.Z6;omega) e).2,e⟩⟩
def o8{l:List Nat}{k:Nat} :(zL l).contains (k:Int)=true↔k∈l:=by
 rw[Mz];unfold zL;rw[NG];constructor
 ·rintro⟨j,a,b⟩;have:j=k:=by omega
  exact this ▸ a
 exact fun h=>⟨k,h,rfl⟩
def filter_one{d:Type} [DecidableEq d]{p:d->Bool}{a:d} : ∀ {l:List d},l.Nodup->a∈l->(∀x∈l,p x=true↔x=a)->l.filter p=[a]
 |[],_,h,_=>by simp at h
 | x::l,k,j,b=>by
   obtain⟨g,i⟩:=PN.1 k;by_cases e:x=a
   ·subst e;rw[PC,Mw ((b x (by simp)).2 rfl),Pd.2 fun y (c:y∈l) f=>g ((b y (O2 _ c)).1 f ▸ c)]
   rw[PC,Mv fun f=>e ((b x (by simp)).1 f)];exact filter_one i ((NX.1 j).resolve_left (Oq e)) fun y c=>b y (O2 _ c)
def DF{p:Nat->Bool}{n:Nat} :((List.range n).filter p).Pairwise (· < ·):=List.Pairwise.sublist OT List.pairwise_lt_range
def Ln{c:aq}{l:List Nat}(h:l.Pairwise (· < ·))(f: ∀k∈l,vn c (zL l) k=true)(i:ch (zL l) (av c (-1) true)=1):tU c (zL l)=true:=by
 rw[zp];refine⟨fun n g=> ?_,i⟩;have a:n<l.length:=by simpa[zL]using g
 have e:(zL l)[n]? =some ((l[n]:Nat):Int):=by unfold zL;rw[NE,Ms a];rfl
 unfold zG;rw[e];simp only[Mx,OO,OQ,NI];refine⟨?_,f _ (Oo a)⟩;by_cases d:n=0
 ·exact .inl d
 right;have:=Nk.1 h (n-1) n (by omega) a (by omega)
 have b:(zL l).getD (n-1) 0=((l[n-1]'(by omega):Nat):Int):=by
  unfold zL;rw[N3,NE,Ms (by omega)];rfl
 rw[b];omega
def JR{l a:List Nat}(h: ∀k∈a,k∈l):ch (zL l) a=a.length:=by
 unfold ch;rw[List.filter_eq_self.2 fun k b=>o8.2 (h k b)]
def Bm{l a:List Nat}{j:Nat}(d:a.Nodup)(b:j∈a)(h: ∀k∈a,k∈l↔k=j):ch (zL l) a=1:=by
 unfold ch;rw[filter_one d b fun k c=>o8.trans (h k c)];rfl
def LY{c:aq}(h:ct c){i m:Nat}{t:n4}(b:c.Z9[i]? =some t)(a:aU t=false)(j:m∈tI c i): ∃s,c.Z9[m]? =some s/\aU s=false:=by
 have g:=(Mt.1 b).1;rcases PB h 40 i m g (by have:=h.Z6;omega) j with rfl|⟨p,q,_,_,f,_⟩
 ·exact⟨t,b,a⟩
 obtain⟨_,s,d,e⟩:=aY f;exact⟨s,d,e⟩
def Av{c:aq}(h:ct c):tU c (zL (rf c))=true:=by
 obtain⟨t,m,v,r,o⟩:=h.topS;have l:=(Mt.1 m).1
 have i:aU t=false:=by
  unfold aU;rcases o with e|e<;>rw[e]<;>rfl
 refine Ln DF (fun k y=> ?_) ?_
 ·have d:=(j6 h).1 y;obtain⟨s,b,z⟩:=LY h m i d;unfold vn;rw[bK,b];simp only[OP];unfold zO;rw[z,Mx,Mx];refine⟨⟨rfl,?_⟩,?_⟩
  ·rw[OO,NI];by_cases e:k=Es c
   ·subst e;rw[m]at b;cases b;left;omega
   obtain⟨p,n,w⟩:=yB h l d e;rw[eH b]at n;right;rw[n];exact o8.2 ((j6 h).2 w)
  have g: ∀j∈av c k true,(j∈rf c↔s.kind=2\/s.initial=(j:Nat)):=fun j f=>(j6 h).trans (EU h l d b f);split
  ·rename_i e;rw[OQ];rcases h.cases b with⟨_,⟨a,_⟩|⟨j,f,a⟩⟩|⟨a,_⟩|⟨a,_⟩|⟨a,_⟩
   ·exact absurd a e.2
   ·exact Bm (bV ..) f fun x u=>(g x u).trans ⟨fun q=>q.elim (fun q=>by omega) fun q=>by omega,fun q=> .inr (by rw[q];exact a)⟩
   ·omega
   ·omega
   omega
  split
  ·rename_i e;rw[OQ];exact JR fun j f=>(g j f).2 (.inl e)
  rfl
 refine Bm (j:=Es c) (bV ..) (Ei m r i) fun x u=> ?_;rw[j6 h];constructor
 ·intro d;by_cases e:x=Es c
  ·exact e
  obtain⟨p,n,_⟩:=yB h l d e;have:=(eJ.1 (aY u).1).2;omega
 rintro rfl;exact zY h l
/-! What begins is few -/
def Kg{c:aq}(h:ct c): ∀(n i m:Nat),i<c.Z9.length->c.Z9.length<=i+n->m∈tI c i->m<c.Z9.length/\(m=i\/(i:Int)∈kf c m)
 |0,i,m,d,l,_=>by omega
 | n+1,i,m,d,l,a=>by
   obtain⟨s,o⟩:=gE d;rw[mr h o,NX,PR]at a;rcases a with rfl|⟨k,f,a⟩
   ·exact⟨d, .inl rfl⟩
   have j:=bF h.toRight (aY f).1;have e:=(eJ.1 (aY f).1).2;have b:(i:Int)∈kf c k:=(cv h.toRight (aW.2 j.2)).2 (.inl e.symm);split at a
   ·obtain⟨g,h2⟩:=Kg h n k m (by omega) (by omega) a;refine⟨g, .inr ?_⟩;rcases h2 with rfl|h2
    ·exact b
    exact i7 h.toRight (m+1) m k i (by omega) h2 b
   simp at a
def C9{c:aq}(h:ct c): ∀(n i:Nat),i<c.Z9.length->c.Z9.length<=i+n->(tI c i).Nodup
 |0,i,w,y=>by omega
 | n+1,i,w,y=>by
   obtain⟨s,z⟩:=gE w;rw[mr h z,PN]
   have f: ∀k∈av c i true,∀m,m∈(if s.kind=2\/s.initial=(k:Nat) then tI c k else [])->m<c.Z9.length/\(m=k\/(k:Int)∈kf c m):=fun k g m d=>by
    have v:=bF h.toRight (aY g).1;split at d
    ·exact Kg h n k m (by omega) (by omega) d
    simp at d
   refine⟨fun d=> ?_,?_⟩
   ·obtain⟨k,g,d⟩:=PR.1 d;have v:=bF h.toRight (aY g).1;obtain⟨x,u⟩:=f k g i d;rcases u with e|e
    ·omega
    have:=kF h.toRight 40 _ _ e;omega
   have o:=bV c i true;rw[Od]at o;rw[Od,List.pairwise_flatMap];refine⟨fun k g=> ?_,?_⟩
   ·have v:=bF h.toRight (aY g).1;rw[<-Od];split
    ·exact C9 h n k (by omega) (by omega)
    exact .nil
   refine Qh (R:=fun a b=>a≠b) ?_ o;intro A B j l t p q D r e;subst e;obtain⟨x,u⟩:=f A j p q;obtain⟨_,C⟩:=f B l p r;exact t (zH h.toRight (aY j).1 (aY l).1 (p+1) p (by omega) x u C)
def AE{c:aq}(h:ct c){i:Nat}(hi:i<c.Z9.length):(tI c i).length<=32:=by
 have b:=h.Z6;have:=(C9 h 40 i hi (by omega)).length_le_of_subset (l₂:=List.range c.Z9.length) fun m a=>NZ.2 (Kg h 40 i m hi (by omega) a).1;simp at this;omega
def zh{c:aq}(h:ct c)(i:Nat):(Se c i).length<=32:=by
 have b:=h.Z6
 have:=(kH h.toRight (zL (tI c i))).length_le_of_subset (l₂:=List.range c.Z9.length) fun m a=>by
  unfold b7 at a;split at a
  ·exact NZ.2 ((gS h.toRight m).1 (NF.1 a).1)
  simp at a
 unfold Se;simp at this;omega
end
section
/-! The n-th ones -/
end
section
def nL(c:aq)(l:List Nat):List Nat:=(List.range c.Z9.length).filter fun k=>D' l (k:Int)
def mV{l:List Nat}{k:Nat} :D' l (k:Int)=true↔k∈l:=by
 rw[pW];constructor
 ·rintro⟨j,a,b⟩;have:j=k:=by omega
  exact this ▸ a
 exact fun h=>⟨k,h,rfl⟩
/-! One more is none -/
end
section
attribute [go_sem] k6 oj fV Row.see AV.see AV.see.seeL Option.getD_none Option.getD_some List.any_cons List.any_nil
def L6:List (Nat×Nat):=[(1000,1000),(1001,1001),(1002,1002),(1003,1003),(1004,1004),(1005,1005)]
attribute [go_sem] L6
def OF{e:Nat->Bool}{a b:Nat}(h: ∀k∈[a,b],e k=false):e a=false/\e b=false:=by simpa using h
def S5{e:Nat->Bool}{a b c:Nat}(h: ∀k∈[a,b,c],e k=false):e a=false/\e b=false/\e c=false:=by simpa using h
def RT{e:Nat->Bool}{a b c d f g:Nat}(h: ∀k∈[a,b,c,d,f,g],e k=false):e a=false/\e b=false/\e c=false/\e d=false/\e f=false/\e g=false:=by simpa using h
def Ul{e:Nat->Bool}{a b c d f g i:Nat}(h: ∀k∈[a,b,c,d,f,g,i],e k=false):e a=false/\e b=false/\e c=false/\e d=false/\e f=false/\e g=false/\e i=false:=by simpa using h
section
variable {P:Program} {env:cf} {nt:Nat} {Q:Exit->St->Prop} {s:St}
theorem Uh{o:Oper}{f:FuncId}{args:List AV}{rest:List C'}{s1:St}{ft:fU}{K:St->List fU->Prop}{grown:Nat->Bool}{cs:(Nat->Nat)->List AV}{pre post:(Nat->Nat)->List (Nat×Row)}{res:(Nat->Nat)->AV}(L:List (Nat×Nat))(hcon:i9 P env f (L.map (·.1)) grown cs pre post res)(k:jt P env rest s1 fun s2 fts=>K s2 (ft::fts))(hc:bJ env s.f o=some (f,args):=by exact rfl)(hk:(L.map (·.1)).Nodup:=by decide)(hr:(L.map (·.2)).Nodup:=by decide)
 (h1:AV.ren.renL (Sl (fP L)) args=cs (RK L s.vs):=by simp only[go_sem]<;>rfl)(h2:AG L s.rows (pre (RK L s.vs)):=by simp only[go_sem,NH]<;>trivial)(he:AH s L:=by simp only[go_sem,NH]<;>trivial)
 (h3: ∀o:Nat->Nat,rm L grown s.vs o (post o) (post fun _=>0) L:=by intro o;simp only[go_sem,hU,NH]<;>trivial)(h4: ∀o:Nat->Nat,(res o).ren (u0 (de L) o (DE L grown s.vs))=(res fun _=>0).ren (u0 (de L) (fun _=>0) (DE L grown s.vs)):=by intro o;simp only[go_sem]<;>rfl)
 (h5:Is ((⟨(res fun _=>0).ren (u0 (de L) (fun _=>0) (DE L grown s.vs)),L.map (lay grown (hU L grown s.vs (post fun _=>0)))⟩:Out).app o.dst s) s1:=by simp only[go_sem,hU];exact iR)(h6:Is (⟨L.map (·.2),L.map (·.2),nv (L.map (lay grown (hU L grown s.vs (post fun _=>0)))),x6 (L.map (lay grown (hU L grown s.vs (post fun _=>0))))⟩:fU) ft:=by simp only[go_sem,hU];exact iR):jt P env (⟨o, .always⟩::rest) s K:=im L hc hcon hk hr h1 h2 he h3 h4 h5 h6 k
theorem iL{o:Oper}{f:FuncId}{args:List AV}{rest:List C'}{s1:St}{ft:fU}{K:St->List fU->Prop}{grown:Nat->Bool}{cs:(Nat->Nat)->List AV}{pre post:(Nat->Nat)->List (Nat×Row)}{res:(Nat->Nat)->AV}(L:List (Nat×Nat))(hcon:i9 P env f (L.map (·.1)) grown cs pre post res)(k:jt P env rest s1 fun s2 fts=>K s2 (ft::fts))(hc:bJ env s.f o=some (f,args):=by exact rfl)(hk:(L.map (·.1)).Nodup:=by decide)(hr:(L.map (·.2)).Nodup:=by decide)
 (h1:AV.ren.renL (Sl (fP L)) args=cs (RK L s.vs):=by simp only[go_sem,F]<;>rfl)(h2:AG L s.rows (pre (RK L s.vs)):=by simp only[go_sem,F,NH]<;>trivial)(he:AH s L:=by simp only[go_sem,F,NH]<;>trivial)
 (h3: ∀o:Nat->Nat,rm L grown s.vs o (post o) (post fun _=>0) L:=by intro o;simp only[go_sem,F,hU,NH]<;>trivial)(h4: ∀o:Nat->Nat,(res o).ren (u0 (de L) o (DE L grown s.vs))=(res fun _=>0).ren (u0 (de L) (fun _=>0) (DE L grown s.vs)):=by intro o;simp only[go_sem,F]<;>rfl)
 (h5:Is ((⟨(res fun _=>0).ren (u0 (de L) (fun _=>0) (DE L grown s.vs)),L.map (lay grown (hU L grown s.vs (post fun _=>0)))⟩:Out).app o.dst s) s1:=by simp only[go_sem,F,hU];exact iR)(h6:Is (⟨L.map (·.2),L.map (·.2),nv (L.map (lay grown (hU L grown s.vs (post fun _=>0)))),x6 (L.map (lay grown (hU L grown s.vs (post fun _=>0))))⟩:fU) ft:=by simp only[go_sem,F,hU];exact iR):jt P env (⟨o, .always⟩::rest) s K:=im L hc hcon hk hr h1 h2 he h3 h4 h5 h6 k
theorem Tz{c:Code}{s1:St}{row:Row}{e:List AV}(r r2 i j:Nat)(ty:TypeId)(sz:Nat)(h:fq P env nt c Q s1)(hr:Is (s.rows r) (some row):=by simp only[go_sem];exact iR)(hi:row.es[i]? =some e:=by exact rfl)(hj:e[j]? =some (.lit (.slice none 0 0)):=by exact rfl)
 (h1:Is ((s.renew r2 ⟨sz,[],ty,true⟩ false).setRow r { row with es:=row.es.set i (e.set j (.row r2 (s.vs r2+1))) }) s1:=by simp only[go_sem];exact iR)(hne:r2≠r:=by decide)(hsz:0<sz:=by decide)(hrz:row.sz≠0:=by exact Ng _)(hp:row.pure=false:=by exact rfl):fq P env nt c Q s:=rH r r2 i j row e ty sz hne hsz hrz hp hi hj hr h1 h
theorem nC{c:Code}{s1:St}{row:Row}{e:List AV}(r r2 i j:Nat)(ty:TypeId)(sz:Nat)(h:fq P env nt c Q s1)(hr:Is (s.rows r) (some row):=by simp only[go_sem,F];exact iR)(hi:row.es[i]? =some e:=by exact rfl)(hj:e[j]? =some (.lit (.slice none 0 0)):=by exact rfl)
 (h1:Is ((s.renew r2 ⟨sz,[],ty,true⟩ false).setRow r { row with es:=row.es.set i (e.set j (.row r2 (s.vs r2+1))) }) s1:=by simp only[go_sem,F];exact iR)(hne:r2≠r:=by decide)(hsz:0<sz:=by decide)(hrz:row.sz≠0:=by exact Ng _)(hp:row.pure=false:=by exact rfl):fq P env nt c Q s:=rH r r2 i j row e ty sz hne hsz hrz hp hi hj hr h1 h
theorem rI{p:Prop}(h:p:=by
 refine aM ?_;try simp only[bD,ba, ↓reduceIte,Nat.reduceEqDiff,reduceCtorEq]
 refine sZ ?_ ?_<;>simp only[go_sem,F,R7,NH,SU,RO,AV.tuple.injEq,Ql,ne_eq]):p:=h
theorem rN{p:Prop}(h:p:=by refine Ip ?_ ?_<;>simp only[go_sem,F,R7,NH,SU,RO,AV.tuple.injEq,Ql,ne_eq]):p:=h
theorem qi{f:FuncId}{fn:Func}{c:Code}{n:Nat}{rs:Array ResultVar}{ids:List Nat}{grown:Nat->Bool}{cs:(Nat->Nat)->List AV}{pre post:(Nat->Nat)->List (Nat×Row)}{res:(Nat->Nat)->AV}(hf:P.funcs[f]? =some fn)(hc: ∀(args:Array Value)(w:World),(callFunc f args).run P w= .ok (.enter f args) w)(hn:fn.ntmps=n)(hr:fn.results=rs)
 (h: ∀vs esc,(∀k∈ids,esc k=false)->fq P env n c (KH P rs.toList ids grown vs post res) ⟨fun t=>(cs vs).getD t .any,au (pre vs),vs,esc⟩)(hb:fn.body=some c:=by exact rfl)(hl: ∀vs,(cs vs).length<=n:=by intro _;simp):i9 P env f ids grown cs pre post res:=⟨hc,fn,c,hf,hb,(by rw[hn];exact hl),(by rw[hn,hr];exact h)⟩
end
end
end Go.Proofs.YtfhkmjbjafeckaaGreatDoor
