/- Steps of a walk that turns rows, each found by itself: F holds the facts at hand. -/
import Derived.Test.YtfhkmjbjafeckaaGreatDoorP10
set_option linter.unusedSimpArgs false
set_option linter.defProp false
namespace Go.Proofs.YtfhkmjbjafeckaaGreatDoor
open Go.RowKit
section
def fb(c:aq)(i:Int):Bool:=decide (0<=i)&&decide (i<c.Z9.length)
def aP(c:aq)(i:Int):Int:=match at_ c i with
 |some s=>s.parent
 |none=> -1
def aI{c:aq}{i:Int} :fb c i=true↔0<=i/\i<c.Z9.length:=by
 unfold fb;rw[Mu,NF,NF]
def aV{c:aq}{k:Nat} :fb c k=true↔k<c.Z9.length:=by rw[aI];omega
def bN(c:aq)(k:Nat):at_ c k=c.Z9[k]? :=by unfold at_;rw[Mw (by omega),OS]
def cS{c:aq}{i:Int}(h:fb c i=true): ∃k s,i=(k:Nat)/\c.Z9[k]? =some s/\at_ c i=some s:=by
 obtain⟨b,d⟩:=aI.1 h;have a:i.toNat<c.Z9.length:=by omega
 refine⟨i.toNat,c.Z9[i.toNat],by omega,Mq a,?_⟩;unfold at_;rw[Mw b,Mq a]
def d4{c:aq}(h:Right c){i:Int}(hi:fb c i=true): -1<=aP c i/\aP c i<i:=by
 obtain⟨k,s,rfl,a,b⟩:=cS hi;unfold aP;rw[b];exact h.par k s a
def eH{c:aq}{k:Nat}{s:nr}(h:c.Z9[k]? =some s):aP c k=s.parent:=by
 unfold aP;rw[bN,h]
/-! The way up -/
def Sq(c:aq):Nat->Int->List Int
 |0,_=>[]
 |f+1,i=>if fb c i=true then aP c i::Sq c f (aP c i) else []
def j0(c:aq)(i:Int):List Int:=Sq c 40 i
def kP{c:aq}{i:Int}(h:fb c i=false)(f:Nat):Sq c f i=[]:=by
 cases f with
 |zero=>rfl
 |succ f=>unfold Sq;rw[h];simp
def Eo{c:aq}(h:Right c): ∀(f g:Nat)(i:Int),i<f->i<g->Sq c f i=Sq c g i
 | 0,g,i,d,e=>by
   have:fb c i=false:=by
    cases a:fb c i
    ·rfl
    have:=aI.1 a;omega
   rw[kP this,kP this]
 | f+1,g,i,d,e=>by
   cases a:fb c i with
   |false=>rw[kP a,kP a]
   | true=>
     have j:=(aI.1 a).1;obtain⟨b,rfl⟩: ∃b,g=b+1:=⟨g-1,by omega⟩;have:=d4 h a;unfold Sq;rw[a];simp only[Nt];rw[Eo h f b (aP c i) (by omega) (by omega)]
def cc{c:aq}{i:Int}(h:fb c i=false):j0 c i=[]:=kP h _
def sF{c:aq}(h:Right c){i:Int}(hi:fb c i=true):j0 c i=aP c i::j0 c (aP c i):=by
 have d:=h.Z6;have a:=aI.1 hi;have b:=d4 h hi;show Sq c (39+1) i=aP c i::Sq c 40 (aP c i);rw[show Sq c (39+1) i=if fb c i=true then aP c i::Sq c 39 (aP c i) else [] from rfl,Mw hi,Eo h 39 40 _ (by omega) (by omega)]
def kC{c:aq}(h:Right c): ∀(f:Nat)(i:Int)(k:Int),k∈Sq c f i-> -1<=k/\k<i
 |0,i,k,hk=>by simp[Sq]at hk
 | f+1,i,k,hk=>by
   cases a:fb c i with
   |false=>rw[kP a]at hk;simp at hk
   | true=>
     have:=d4 h a;unfold Sq at hk;rw[a]at hk;simp only[Nt,NV]at hk;rcases hk with rfl|hk
     ·exact this
     have:=kC h f _ k hk;omega
def cv{c:aq}(h:Right c){i:Int}(hi:fb c i=true){k:Int} :k∈j0 c i↔k=aP c i\/k∈j0 c (aP c i):=by rw[sF h hi,NV]
def kV{c:aq} : ∀(f:Nat)(i:Int),(Sq c f i).length<=f
 |0,i=>by simp[Sq]
 | f+1,i=>by
   unfold Sq;split
   ·have:=kV (c:=c) f (aP c i);simp;omega
   simp
def sD{c:aq}(h:Right c): ∀(n:Nat)(i:Int),fb c i=true->i<n-> -1∈j0 c i
 |0,i,a,b=>by have:=aI.1 a;omega
 | n+1,i,a,b=>by
   rw[cv h a];have f:=d4 h a;by_cases e:aP c i= -1
   ·exact .inl e.symm
   have d:=aI.1 a;exact .inr (sD h n _ (aI.2 (by omega)) (by omega))
def i8{c:aq}(h:Right c): ∀(n:Nat)(i j k:Int),i<n->j∈j0 c i->k∈j0 c j->k∈j0 c i
 | 0,i,j,k,e,a,d=>by
   cases b:fb c i with
   |false=>rw[cc b]at a;simp at a
   |true=>have:=aI.1 b;omega
 | n+1,i,j,k,e,a,d=>by
   cases b:fb c i with
   |false=>rw[cc b]at a;simp at a
   | true=>
     rw[cv h b]at a |-;have f:=d4 h b;rcases a with rfl|a
     ·exact .inr d
     exact .inr (i8 h n _ j k (by omega) a d)
/-! What is above a state, as bits -/
def Dc(c:aq):Nat->Int->Nat
 |0,_=>0
 |f+1,i=>if fb c i=true then(if 0<=aP c i then Dc c f (aP c i)||| 2^(aP c i).toNat else 0) else 0
def ud{c:aq}(h:Right c): ∀(f:Nat)(i:Int)(k:Nat),(Dc c f i).testBit k=decide ((k:Int)∈Sq c f i)
 |0,i,k=>by simp[Dc,Sq]
 | f+1,i,k=>by
   unfold Dc Sq;cases b:fb c i with
   |false=>simp
   | true=>
     simp only[Nt];have l:=d4 h b;by_cases e:0<=aP c i
     ·rw[Mw e,Qu,ud h f,QI];by_cases a:(k:Int)=aP c i
      ·have:(aP c i).toNat=k:=by omega
       simp[a,this]
      have: ¬(aP c i).toNat=k:=by omega
      simp[a,this]
     rw[Mt e];have d:aP c i= -1:=by omega
     have j:fb c (-1)=false:=by
      cases g:fb c (-1)
      ·rfl
      have:=aI.1 g;omega
     rw[d,kP j];simp
def pc(c:aq)(i:Int):Nat:=Dc c 40 i
def su{c:aq}(h:Right c)(i:Int)(k:Nat):(pc c i).testBit k=decide ((k:Int)∈j0 c i):=ud h 40 i k
def nJ{c:aq}(h:Right c){i:Int}(hi:i<32):pc c i<2^32:=by
 apply Nat.lt_pow_two_of_testBit;intro k b;rw[su h];simp only[Nm];intro a;have:=kC h 40 i k a;omega
def ww{c:aq}(h:Right c){i:Int}(hi:fb c i=true):pc c i=if 0<=aP c i then pc c (aP c i)||| 2^(aP c i).toNat else 0:=by
 apply Nat.eq_of_testBit_eq;intro k;have g:=d4 h hi;rw[su h,sF h hi];by_cases e:0<=aP c i
 ·rw[Mw e,Qu,su h,QI];by_cases a:(k:Int)=aP c i
  ·have:(aP c i).toNat=k:=by omega
   simp[a,this]
  have: ¬(aP c i).toNat=k:=by omega
  simp[a,this]
 rw[Mt e];have b:aP c i= -1:=by omega
 have f:fb c (-1)=false:=by
  cases d:fb c (-1)
  ·rfl
  have:=aI.1 d;omega
 rw[b,cc f];simp
def d6{a c:Type}{f g:a->List c} : ∀ {l:List a},(∀x∈l,f x=g x)->l.flatMap f=l.flatMap g
 |[],_=>rfl
 | x::l,h=>by
   simp only[Q0];rw[h x (by simp),d6 fun y b=>h y (by simp[b])]
/-! The walk -/
def rK(c:aq):Nat->Int->List Nat
 |0,_=>[]
 |f+1,i=>(av c i false).flatMap fun k=>k::rK c f k
def gu(c:aq)(i:Int):List Nat:=rK c 40 i
def eJ{c:aq}{i:Int}{k:Nat} :k∈av c i false↔k<c.Z9.length/\aP c k=i:=by
 unfold av bj;rw[ND,NX];constructor
 ·rintro⟨b,a⟩;obtain⟨s,d⟩:=gE b;refine⟨b,?_⟩;unfold dM at a;rw[d]at a;rw[eH d];simpa using a
 rintro⟨b,a⟩;obtain⟨s,d⟩:=gE b;refine⟨b,?_⟩;unfold dM;rw[d];rw[eH d]at a;simp[a]
def bW(c:aq)(i:Int)(a:Bool):(av c i a).Nodup:=Qn OR List.nodup_range
def aY{c:aq}{i:Int}{k:Nat}(h:k∈av c i true):k∈av c i false/\ ∃s,c.Z9[k]? =some s/\aU s=false:=by
 unfold av bj at h |-;rw[ND]at h |-;obtain⟨d,a⟩:=h;unfold dM at a |-;cases b:c.Z9[k]? with
 |none=>rw[b]at a;cases a
 | some s=>
   rw[b]at a;simp at a |-;exact⟨⟨by simpa using d,a.1⟩,a.2⟩
def bJ{c:aq}(h:Right c){i:Int}{k:Nat}(b:k∈av c i false):i<k/\k<c.Z9.length:=by
 obtain⟨a,d⟩:=eJ.1 b;have:=d4 h (aV.2 a);omega
def GC{c:aq}(h:Right c): ∀(f g:Nat)(i:Int),(c.Z9.length:Int)<=i+f->(c.Z9.length:Int)<=i+g->rK c f i=rK c g i:=by
 have none: ∀(g:Nat)(i:Int),(c.Z9.length:Int)<=i->rK c g i=[]:=fun g i j=>by
  cases g with
  |zero=>rfl
  | succ g=>
    unfold rK;have:av c i false=[]:=PO.2 fun k a=>by have:=bJ h a;omega
    rw[this];rfl
 intro f
 induction f with
 |zero=>intro g i b d;rw[none g i (by omega)];rfl
 | succ f e=>
   intro g i b d;cases g with
   |zero=>rw[none (f+1) i (by omega)];rfl
   | succ g=>
     unfold rK;apply d6;intro k a;have:=bJ h a;rw[e g k (by omega) (by omega)]
def FL{c:aq}(h:Right c){i:Int}(_hi: -1<=i):gu c i=(av c i false).flatMap fun k=>k::gu c k:=by
 have b:=h.Z6;show (av c i false).flatMap (fun k=>k::rK c 39 k)=_;apply d6;intro k a;have:=bJ h a;rw[show rK c 39 k=gu c k from GC h 39 40 k (by omega) (by omega)]
def jc{c:aq}(h:Right c): ∀(n:Nat)(i:Int)(m:Nat), -1<=i->(c.Z9.length:Int)<=i+n->(m∈gu c i↔m<c.Z9.length/\i∈j0 c m)
 | 0,i,m,o,w=>by
   rw[FL h o];have:av c i false=[]:=PO.2 fun k b=>by have:=bJ h b;omega
   rw[this];simp only[List.flatMap_nil,List.not_mem_nil,false_iff,not_and];intro j l;have:=kC h 40 m i l;omega
 | n+1,i,m,o,w=>by
   rw[FL h o,PP];constructor
   ·rintro⟨k,b,hm⟩;have v:=bJ h b;obtain⟨r,t⟩:=eJ.1 b;rcases NV.1 hm with rfl|hm
    ·exact⟨r,(cv h (aV.2 r)).2 (.inl t.symm)⟩
    obtain⟨C,D⟩:=(jc h n k m (by omega) (by omega)).1 hm;refine⟨C,i8 h 40 m k i (by have:=h.Z6;omega) D ((cv h (aV.2 r)).2 (.inl t.symm))⟩
   rintro⟨j,l⟩
   have s: ∀(d:Nat)(m:Nat),m<d->m<c.Z9.length->i∈j0 c m-> ∃k∈av c i false,m=k\/(k:Int)∈j0 c m:=fun d=>by
    induction d with
    |zero=>intro m u;omega
    | succ d B=>
      intro m u hm z;have f:=aV.2 hm;rcases (cv h f).1 z with e|e
      ·exact⟨m,eJ.2 ⟨hm,e.symm⟩, .inl rfl⟩
      have x:=d4 h f
      have E:0<=aP c m:=by
       rcases Qw (aP c m) 0 with q|q
       ·have A:fb c (aP c m)=false:=by
         cases y:fb c (aP c m)
         ·rfl
         have:=aI.1 y;omega
        rw[cc A]at e;simp at e
       exact q
      obtain⟨p,g⟩: ∃p:Nat,aP c m=p:=⟨(aP c m).toNat,by omega⟩;rw[g]at e x;obtain⟨k,b,a⟩:=B p (by omega) (by omega) e;refine⟨k,b, .inr ((cv h f).2 ?_)⟩;rw[g];rcases a with rfl|a
      ·exact .inl rfl
      exact .inr a
   obtain⟨k,b,a⟩:=s (m+1) m (by omega) j l;have v:=bJ h b;refine⟨k,b,NV.2 ?_⟩;rcases a with e|e
   ·exact .inl e
   exact .inr ((jc h n k m (by omega) (by omega)).2 ⟨j,e⟩)
def gU{c:aq}(h:Right c)(m:Nat):m∈gu c (-1)↔m<c.Z9.length:=by
 rw[jc h 40 (-1) m (by omega) (by have:=h.Z6;omega)];exact⟨fun h=>h.1,fun a=>⟨a,sD h (m+1) m (aV.2 a) (by omega)⟩⟩
def yw{c:aq}(h:Right c){i:Int}{g j:Nat}(u:g∈av c i false)(v:j∈av c i false): ∀(d m:Nat),m<d->m<c.Z9.length->(m=g\/(g:Int)∈j0 c m)->(m=j\/(j:Int)∈j0 c m)->g=j:=by
 obtain⟨l,o⟩:=eJ.1 u;obtain⟨n,r⟩:=eJ.1 v
 have t: ∀ {x y:Nat},x<c.Z9.length->aP c x=i->y<c.Z9.length->aP c y=i-> ¬(y:Int)∈j0 c x:=fun {x y} s G B H k=>by
  have I:=d4 h (aV.2 s);have J:=d4 h (aV.2 B);rcases (cv h (aV.2 s)).1 k with e|e
  ·omega
  have:=kC h 40 _ _ e;omega
 intro d
 induction d with
 |zero=>intro m w;omega
 | succ d D=>
   intro m w k e1 a;rcases e1 with rfl|e1
   ·rcases a with rfl|a
    ·rfl
    exact absurd a (t l o n r)
   rcases a with rfl|a
   ·exact absurd e1 (t n r l o)
   have b:=aV.2 k;have z:=d4 h b
   have E:0<=aP c m:=by
    rcases Qw (aP c m) 0 with q|q
    ·have C:fb c (aP c m)=false:=by
      cases A:fb c (aP c m)
      ·rfl
      have:=aI.1 A;omega
     rw[cv h b,cc C]at e1;rcases e1 with e|e
     ·omega
     simp at e
    exact q
   obtain⟨p,f⟩: ∃p:Nat,aP c m=p:=⟨(aP c m).toNat,by omega⟩;rw[cv h b,f]at e1 a;rw[f]at z;exact D p (by omega) (by omega) (by rcases e1 with e|e;exact .inl (by omega);exact .inr e) (by rcases a with e|e;exact .inl (by omega);exact .inr e)
def kA{c:aq}(h:Right c): ∀(n:Nat)(i:Int), -1<=i->(c.Z9.length:Int)<=i+n->(gu c i).Nodup
 | 0,i,p,w=>by
   rw[FL h p];have:av c i false=[]:=PO.2 fun k d=>by have:=bJ h d;omega
   rw[this];simp
 | n+1,i,p,w=>by
   rw[FL h p]
   have l: ∀k∈av c i false,∀m,m∈k::gu c k->m<c.Z9.length/\(m=k\/(k:Int)∈j0 c m):=fun k d m hm=>by
    have v:=bJ h d;rcases NV.1 hm with rfl|hm
    ·exact⟨v.2, .inl rfl⟩
    obtain⟨t,u⟩:=(jc h n k m (by omega) (by omega)).1 hm;exact⟨t, .inr u⟩
   have j:=bW c i false;rw[Oe]at j;rw[Oe,List.pairwise_flatMap];refine⟨fun k d=> ?_,?_⟩
   ·rw[<-Oe,PM];have v:=bJ h d;refine⟨fun hm=> ?_,kA h n k (by omega) (by omega)⟩;have:=(jc h n k k (by omega) (by omega)).1 hm;have:=kC h 40 _ _ this.2;omega
   refine Qi (R:=fun a b=>a≠b) ?_ j;intro x y f g s o q A r e;subst e;obtain⟨t,u⟩:=l x f o q;obtain⟨_,z⟩:=l y g o r;exact s (yw h f g (o+1) o (by omega) t u z)
/-! Sorting by the walk -/
def bt(c:aq)(l:List Int):List Nat:=if l.all (fb c)=true then(gu c (-1)).filter fun k=>l.contains (k:Int) else []
def BK{c:aq}(h:Right c){l:List Int}(b:l.all (fb c)=true){k:Nat} :k∈bt c l↔(k:Int)∈l:=by
 unfold bt;rw[Mw b,ND,gU h];simp only[Mx];refine⟨fun h=>h.2,fun a=>⟨aV.1 (Mz.1 b _ a),a⟩⟩
def ml{c:aq}(h:Right c)(l:List Int):(bt c l).Nodup:=by
 unfold bt;split
 ·exact Qn OR (kA h 40 (-1) (by omega) (by have:=h.Z6;omega))
 simp
end
section
structure ch(c:aq):Prop extends Right c where
 st: ∀(k:Nat)(s:nr),c.Z9[k]? =some s->cN c k s=true
 tr: ∀(k:Nat)(t:tR),c.trans[k]? =some t->da c t=true
 ini:mi c=true
 ZP:c.trans.length<=64
def Sv{c:aq}(h:(n5 c).1=0):ch c:=by
 refine⟨BP h,?_,?_,?_,?_⟩<;>
 ·unfold n5 at h;split at h
  ·simp at h
  rename_i g;split at h
  ·simp at h
  split at h
  ·simp at h
  split at h
  ·simp at h
  rename_i d;split at h
  ·simp at h
  rename_i e;split at h
  ·simp at h
  rename_i f
  first
   |(intro k s a
     have:=cj d k (Mr.1 a).1;unfold lw at this;rw[a]at this
     exact this)
   |(intro k t b
     have:=cj f k (Mr.1 b).1;unfold rW at this;rw[b]at this
     exact this)
   |(simpa using e)
   |omega
def ch.shape{c:aq}(h:ch c){k:Nat}{s:nr}(a:c.Z9[k]? =some s):dK c k s=true:=by
 have:=h.st k s a;simp only[cN,Mu]at this;exact this.1.1.2
def pP{l:List Nat}{n:Int} :GS l n=true↔ ∃k∈l,(k:Int)=n:=by
 unfold GS;rw[OE];simp
def ch.cases{c:aq}(h:ch c){k:Nat}{s:nr}(g:c.Z9[k]? =some s):
 (s.kind=1/\((av c k true=[]/\s.initial= -1)\/ ∃j∈av c k true,s.initial=(j:Nat)))\/(s.kind=2/\s.initial= -1/\av c k true≠[]/\ ∀j∈av c k true,az c j=true)\/
  (s.kind=3/\av c k false=[]/\s.initial= -1)\/((s.kind=4\/s.kind=5)/\av c k false=[]/\cw c s=true/\GS (av c s.parent true) s.initial=true):=by
 have a:=h.shape g;unfold dK at a;split at a
 ·rename_i e;refine .inl ⟨e,?_⟩;split at a
  ·rename_i b;exact .inl ⟨b,by simpa using a⟩
  obtain⟨j,f,d⟩:=pP.1 a;exact .inr ⟨j,f,d.symm⟩
 split at a
 ·rename_i e;simp only[Mu,NF,Nz,Mz]at a;exact .inr (.inl ⟨e,a.2,fun b=>by rw[b]at a;simp at a,a.1.1⟩)
 split at a
 ·rename_i e;simp only[Mu,Nz]at a;exact .inr (.inr (.inl ⟨e,by simpa using a.1.1.1,a.1.2⟩))
 split at a
 ·rename_i e;simp only[Mu,Nz]at a;exact .inr (.inr (.inr ⟨e,by simpa using a.1.1.1.1,a.1.1.1.2,a.1.1.2⟩))
 cases a
def mH{c:aq}{i:Int}(h:av c i false=[]):av c i true=[]:=by
 apply PO.2;intro k a;have:=(aY a).1;rw[h]at this;simp at this
abbrev zL(l:List Nat):List Int:=l.map fun k:Nat=>(k:Int)
/-! What begins with a state -/
def TA(c:aq):Nat->Nat->List Nat
 |0,_=>[]
 | f+1,i=>i::match c.Z9[i]? with
   |some s=>if s.kind=1/\0<=s.initial then TA c f s.initial.toNat else if s.kind=2 then(av c i true).flatMap (TA c f) else []
   |none=>[]
def zE(c:aq)(i:Nat):List Nat:=TA c 40 i
def yy{c:aq}(h:ch c){i:Nat}{s:nr}(a:c.Z9[i]? =some s)(d:s.kind=1)(b:0<=s.initial): ∃j∈av c i true,s.initial=(j:Nat):=by
 rcases h.cases a with⟨_,⟨_,e⟩|e⟩|⟨e,_⟩|⟨e,_⟩|⟨e,_⟩
 ·omega
 ·exact e
 ·omega
 ·omega
 omega
def zP{c:aq}(h:ch c): ∀(f g:Nat)(i:Nat),i<c.Z9.length->c.Z9.length<=i+f->c.Z9.length<=i+g->TA c f i=TA c g i
 |0,g,i,a,b,d=>by omega
 |f+1,0,i,a,b,d=>by omega
 | f+1,g+1,i,a,b,d=>by
   unfold TA
   congr 1
   cases o:c.Z9[i]? with
   |none=>rfl
   | some s=>
     simp only;split
     ·rename_i e;obtain⟨j,m,l⟩:=yy h o e.1 e.2;have:=bJ h.toRight (aY m).1;rw[l,OS];exact zP h f g j (by omega) (by omega) (by omega)
     split
     ·apply d6;intro k n;have:=bJ h.toRight (aY n).1;exact zP h f g k (by omega) (by omega) (by omega)
     rfl
def Jl(c:aq)(f i:Nat):TA c (f+1) i=i::match c.Z9[i]? with
 |some s=>if s.kind=1/\0<=s.initial then TA c f s.initial.toNat else if s.kind=2 then(av c i true).flatMap (TA c f) else []
 |none=>[]:=rfl
def Ll{c:aq}(h:ch c){i:Nat}{s:nr}(e:c.Z9[i]? =some s):zE c i=i::if s.kind=1/\0<=s.initial then zE c s.initial.toNat else if s.kind=2 then(av c i true).flatMap (zE c) else []:=by
 have l:=(Mr.1 e).1;have k:=h.Z6;have b:=Jl c 39 i;rw[e]at b;simp only at b
 have f: ∀j,j∈av c i true->TA c 39 j=zE c j:=fun j d=>by
  have:=bJ h.toRight (aY d).1;exact zP h 39 40 j (by omega) (by omega) (by omega)
 refine Eq.trans b (N6 (List.cons i) ?_);by_cases q:s.kind=1/\0<=s.initial
 ·rw[Mw q,Mw q];obtain⟨j,d,g⟩:=yy h e q.1 q.2;rw[g,OS];exact f j d
 rw[Mt q,Mt q];by_cases a:s.kind=2
 ·rw[Mw a,Mw a];exact d6 f
 rw[Mt a,Mt a]
def oF{a c:Type}{f:a->List c} : ∀ {l:List a},(∀x∈l,f x=[])->l.flatMap f=[]
 |[],_=>rfl
 | x::l,h=>by
   simp only[Q0];rw[h x (by simp),oF fun y b=>h y (by simp[b])];rfl
def PT{d k:Type}{f:d->List k}{a:d} : ∀ {l:List d},l.Nodup->a∈l->(∀x∈l,x≠a->f x=[])->l.flatMap f=f a
 |[],_,c,_=>by simp at c
 | x::l,j,c,h=>by
   obtain⟨g,i⟩:=PM.1 j;simp only[Q0];by_cases e:x=a
   ·subst e;rw[oF fun y b=>h y (by simp[b]) fun e=>g (e ▸ b),OP]
   rw[h x (by simp) e,PX];exact PT i ((NV.1 c).resolve_left (Ot e)) fun y b=>h y (by simp[b])
def rb{c:aq}(h:ch c){i:Nat}{s:nr}(d:c.Z9[i]? =some s):zE c i=i::(av c i true).flatMap fun k=>if s.kind=2\/s.initial=(k:Nat) then zE c k else []:=by
 rw[Ll h d]
 congr 1
 rcases h.cases d with⟨e,⟨a,b⟩|⟨j,f,b⟩⟩|⟨e,a,_⟩|⟨e,a,_⟩|⟨e,a,_⟩
 ·rw[a,Mt (by omega),Mt (by omega)];rfl
 ·rw[Mw ⟨e,by omega⟩,b,OS];rw[PT (bW c i true) f fun x _ g=>by rw[Mt];omega];rw[Mw (.inr rfl)]
 ·rw[Mt (by omega),Mw e];apply d6;intro k _;rw[Mw (.inl e)]
 ·rw[Mt (by omega),Mt (by omega),mH a];rfl
 rw[Mt (by omega),Mt (by omega),mH a];rfl
def IX{c:aq}(h:ch c): ∀(n i m:Nat),i<c.Z9.length->c.Z9.length<=i+n->m∈zE c i->i<=m/\m<c.Z9.length
 |0,i,m,b,e,_=>by omega
 | n+1,i,m,b,e,a=>by
   obtain⟨s,f⟩:=gE b;rw[rb h f,NV,PP]at a;rcases a with rfl|⟨k,d,a⟩
   ·exact⟨NC _,b⟩
   have g:=bJ h.toRight (aY d).1;split at a
   ·have:=IX h n k m (by omega) (by omega) a;omega
   simp at a
def zO{c:aq}(h:ch c){i:Nat}(hi:i<c.Z9.length):i∈zE c i:=by
 obtain⟨s,a⟩:=gE hi;rw[rb h a];exact QR ..
def Rg{c:aq}(h:ch c): ∀(n i m:Nat),i<c.Z9.length->c.Z9.length<=i+n->m∈zE c i->m=i\/ ∃p s,p∈zE c i/\c.Z9[p]? =some s/\m∈av c p true/\(s.kind=2\/s.initial=(m:Nat))
 |0,i,m,b,r,_=>by omega
 | n+1,i,m,b,r,a=>by
   obtain⟨s,j⟩:=gE b;have g:=rb h j;rw[g,NV,PP]at a;rcases a with rfl|⟨k,d,a⟩
   ·exact .inl rfl
   have u:=bJ h.toRight (aY d).1;split at a
   ·rename_i e
    have f: ∀x,x∈zE c k->x∈zE c i:=fun x t=>by
     rw[g,NV,PP];exact .inr ⟨k,d,by rw[Mw e];exact t⟩
    rcases Rg h n k m (by omega) (by omega) a with rfl|⟨p,q,l,o⟩
    ·exact .inr ⟨i,s,zO h b,j,d,e⟩
    exact .inr ⟨p,q,f p l,o⟩
   simp at a
def Fq{c:aq}(h:ch c): ∀(n i m:Nat)(s:nr)(k:Nat),i<c.Z9.length->c.Z9.length<=i+n->m∈zE c i->c.Z9[m]? =some s->k∈av c m true->(s.kind=2\/s.initial=(k:Nat))->k∈zE c i
 |0,i,m,s,k,g,u,_,_,_,_=>by omega
 | n+1,i,m,s,k,g,u,a,b,d,e=>by
   obtain⟨q,o⟩:=gE g;have r:=rb h o;have t:=a;rw[r,NV,PP]at a |-;rcases a with rfl|⟨j,l,a⟩
   ·rw[o]at b;cases b;have f:=bJ h.toRight (aY d).1;exact .inr ⟨k,d,by rw[Mw e];exact zO h f.2⟩
   have f:=bJ h.toRight (aY l).1;split at a
   ·rename_i p;exact .inr ⟨j,l,by rw[Mw p];exact Fq h n j m s k (by omega) (by omega) a b d e⟩
   simp at a
def ER{c:aq}(h:ch c){i m:Nat}{s:nr}(hi:i<c.Z9.length)(d:m∈zE c i)(e:c.Z9[m]? =some s){k:Nat}(a:k∈av c m true):k∈zE c i↔s.kind=2\/s.initial=(k:Nat):=by
 have t:=h.Z6;refine⟨fun j=> ?_,Fq h 40 i m s k hi (by omega) d e a⟩;have u:=bJ h.toRight (aY a).1;have l:=IX h 40 i m hi (by omega) d;rcases Rg h 40 i k hi (by omega) j with rfl|⟨p,q,r,b,f,g⟩
 ·omega
 have n:=(eJ.1 (aY f).1).2;have o:=(eJ.1 (aY a).1).2;have:p=m:=by omega
 subst this;rw[e]at b;cases b;exact g
def xq{c:aq}(h:ch c){i m:Nat}(hi:i<c.Z9.length)(f:m∈zE c i)(a:m≠i): ∃p:Nat,aP c m=p/\p∈zE c i:=by
 have k:=h.Z6;rcases Rg h 40 i m hi (by omega) f with e|⟨p,q,b,g,d,j⟩
 ·exact absurd e a
 exact⟨p,(eJ.1 (aY d).1).2,b⟩
def MQ{c:aq}(h:ch c){i:Nat}(hi:i<c.Z9.length):(zL (zE c i)).all (fb c)=true:=by
 have d:=h.Z6;rw[Mz];intro x b;obtain⟨k,a,rfl⟩:=NE.1 b;exact aV.2 (IX h 40 i k hi (by omega) a).2
def Th(c:aq)(i:Nat):List Nat:=bt c (zL (zE c i))
def Jy{c:aq}(h:ch c){i:Nat}(hi:i<c.Z9.length){k:Nat} :k∈Th c i↔k∈zE c i:=by
 unfold Th;rw[BK h.toRight (MQ h hi),NE];constructor
 ·rintro⟨j,a,e⟩;have:j=k:=by omega
  exact this ▸ a
 exact fun b=>⟨k,b,rfl⟩
end
section
def b6(act:List Int)(a:List Nat):Nat:=(a.filter fun k:Nat=>act.contains (k:Int)).length
def yv(act:List Int)(a:List Nat):b6 act a<=a.length:=NS ..
def rj(c:aq)(act:List Int)(i:Nat)(s:nr):Bool:=
 !aU s&&(decide (s.parent<0)||act.contains s.parent)&&
  (if s.kind=1/\av c i true≠[] then b6 act (av c i true)==1 else if s.kind=2 then b6 act (av c i true)==(av c i true).length else true)
def vk(c:aq)(act:List Int)(i:Int):Bool:=match at_ c i with
 |some s=>rj c act i.toNat s
 |none=>false
def vh(c:aq)(act:List Int)(n:Nat):Bool:=match act[n]? with
 |some i=>(n==0||decide (act.getD (n-1) 0<i))&&vk c act i
 |none=>true
def kN(c:aq)(act:List Int):Int×Int:=match bF (vh c act) act.length with
 |some n=>(1,max (act.getD n 0) (-1))
 |none=>if b6 act (av c (-1) true)=1 then(0, -1) else(1, -1)
def tI(c:aq)(act:List Int):Bool:=(kN c act).1==0
def zf{c:aq}{act:List Int} :tI c act=true↔(∀n,n<act.length->vh c act n=true)/\b6 act (av c (-1) true)=1:=by
 unfold tI kN;cases h:bF (vh c act) act.length with
 | some n=>
   refine⟨fun e=>by simp at e,fun e=> ?_⟩;rw[bK e.1]at h;cases h
 | none=>
   simp only;split
   ·rename_i e;exact⟨fun _=>⟨fun n b=>cj h n b,e⟩,fun _=>rfl⟩
   rename_i e;exact⟨fun a=>by simp at a,fun a=>absurd a.2 e⟩
/-! What is active at first -/
def KK(c:aq):Nat:=c.initial.toNat
def ch.topS{c:aq}(h:ch c): ∃s,c.Z9[KK c]? =some s/\c.initial=(KK c:Nat)/\s.parent= -1/\(s.kind=1\/s.kind=2):=by
 have:=h.ini;unfold mi at this;cases a:at_ c c.initial with
 |none=>rw[a]at this;simp at this
 | some s=>
   rw[a]at this;unfold at_ at a;split at a
   ·rename_i b;refine⟨s,a,by unfold KK;omega,?_⟩;simp only[eR,Mu,Nz,OQ]at this;exact⟨this.1,this.2⟩
   cases a
def r8(c:aq):List Nat:=(List.range c.Z9.length).filter fun k=>decide (k∈Th c (KK c))
def j8{c:aq}(h:ch c){k:Nat} :k∈r8 c↔k∈zE c (KK c):=by
 obtain⟨s,b,_⟩:=h.topS;have a:=(Mr.1 b).1;unfold r8;rw[ND,NX,NF,Jy h a];exact⟨fun e=>e.2,fun e=>⟨(IX h 40 _ k a (by have:=h.Z6;omega) e).2,e⟩⟩
def oR{l:List Nat}{k:Nat} :(zL l).contains (k:Int)=true↔k∈l:=by
 rw[Mx];unfold zL;rw[NE];constructor
 ·rintro⟨j,a,b⟩;have:j=k:=by omega
  exact this ▸ a
 exact fun h=>⟨k,h,rfl⟩
def filter_one{d:Type} [DecidableEq d]{p:d->Bool}{a:d} : ∀ {l:List d},l.Nodup->a∈l->(∀x∈l,p x=true↔x=a)->l.filter p=[a]
 |[],_,h,_=>by simp at h
 | x::l,k,j,b=>by
   obtain⟨g,i⟩:=PM.1 k;by_cases e:x=a
   ·subst e;rw[Oz,Mw ((b x (by simp)).2 rfl),Pf.2 fun y (c:y∈l) f=>g ((b y (O3 _ c)).1 f ▸ c)]
   rw[Oz,Mt fun f=>e ((b x (by simp)).1 f)];exact filter_one i ((NV.1 j).resolve_left (Ot e)) fun y c=>b y (O3 _ c)
def Cy{p:Nat->Bool}{n:Nat} :((List.range n).filter p).Pairwise (· < ·):=List.Pairwise.sublist OR List.pairwise_lt_range
def Le{c:aq}{l:List Nat}(h:l.Pairwise (· < ·))(f: ∀k∈l,vk c (zL l) k=true)(i:b6 (zL l) (av c (-1) true)=1):tI c (zL l)=true:=by
 rw[zf];refine⟨fun n g=> ?_,i⟩;have a:n<l.length:=by simpa[zL]using g
 have e:(zL l)[n]? =some ((l[n]:Nat):Int):=by unfold zL;rw[NB,Mq a];rfl
 unfold vh;rw[e];simp only[Mu,OQ,Nz,NF];refine⟨?_,f _ (Oq a)⟩;by_cases d:n=0
 ·exact .inl d
 right;have:=Nn.1 h (n-1) n (by omega) a (by omega)
 have b:(zL l).getD (n-1) 0=((l[n-1]'(by omega):Nat):Int):=by
  unfold zL;rw[NW,NB,Mq (by omega)];rfl
 rw[b];omega
def JL{l a:List Nat}(h: ∀k∈a,k∈l):b6 (zL l) a=a.length:=by
 unfold b6;rw[List.filter_eq_self.2 fun k b=>oR.2 (h k b)]
def Be{l a:List Nat}{j:Nat}(d:a.Nodup)(b:j∈a)(h: ∀k∈a,k∈l↔k=j):b6 (zL l) a=1:=by
 unfold b6;rw[filter_one d b fun k c=>oR.trans (h k c)];rfl
def LP{c:aq}(h:ch c){i m:Nat}{t:nr}(b:c.Z9[i]? =some t)(a:aU t=false)(j:m∈zE c i): ∃s,c.Z9[m]? =some s/\aU s=false:=by
 have g:=(Mr.1 b).1;rcases Rg h 40 i m g (by have:=h.Z6;omega) j with rfl|⟨p,q,_,_,f,_⟩
 ·exact⟨t,b,a⟩
 obtain⟨_,s,d,e⟩:=aY f;exact⟨s,d,e⟩
def Ai{c:aq}(h:ch c):tI c (zL (r8 c))=true:=by
 obtain⟨t,m,v,r,o⟩:=h.topS;have l:=(Mr.1 m).1
 have i:aU t=false:=by
  unfold aU;rcases o with e|e<;>rw[e]<;>rfl
 refine Le Cy (fun k y=> ?_) ?_
 ·have d:=(j8 h).1 y;obtain⟨s,b,z⟩:=LP h m i d;unfold vk;rw[bN,b];simp only[OS];unfold rj;rw[z,Mu,Mu];refine⟨⟨rfl,?_⟩,?_⟩
  ·rw[OQ,NF];by_cases e:k=KK c
   ·subst e;rw[m]at b;cases b;left;omega
   obtain⟨p,n,w⟩:=xq h l d e;rw[eH b]at n;right;rw[n];exact oR.2 ((j8 h).2 w)
  have g: ∀j∈av c k true,(j∈r8 c↔s.kind=2\/s.initial=(j:Nat)):=fun j f=>(j8 h).trans (ER h l d b f);split
  ·rename_i e;rw[Nz];rcases h.cases b with⟨_,⟨a,_⟩|⟨j,f,a⟩⟩|⟨a,_⟩|⟨a,_⟩|⟨a,_⟩
   ·exact absurd a e.2
   ·exact Be (bW ..) f fun x u=>(g x u).trans ⟨fun q=>q.elim (fun q=>by omega) fun q=>by omega,fun q=> .inr (by rw[q];exact a)⟩
   ·omega
   ·omega
   omega
  split
  ·rename_i e;rw[Nz];exact JL fun j f=>(g j f).2 (.inl e)
  rfl
 refine Be (j:=KK c) (bW ..) (Ed m r i) fun x u=> ?_;rw[j8 h];constructor
 ·intro d;by_cases e:x=KK c
  ·exact e
  obtain⟨p,n,_⟩:=xq h l d e;have:=(eJ.1 (aY u).1).2;omega
 rintro rfl;exact zO h l
/-! What begins is few -/
def K6{c:aq}(h:ch c): ∀(n i m:Nat),i<c.Z9.length->c.Z9.length<=i+n->m∈zE c i->m<c.Z9.length/\(m=i\/(i:Int)∈j0 c m)
 |0,i,m,d,l,_=>by omega
 | n+1,i,m,d,l,a=>by
   obtain⟨s,o⟩:=gE d;rw[rb h o,NV,PP]at a;rcases a with rfl|⟨k,f,a⟩
   ·exact⟨d, .inl rfl⟩
   have j:=bJ h.toRight (aY f).1;have e:=(eJ.1 (aY f).1).2;have b:(i:Int)∈j0 c k:=(cv h.toRight (aV.2 j.2)).2 (.inl e.symm);split at a
   ·obtain⟨g,h2⟩:=K6 h n k m (by omega) (by omega) a;refine⟨g, .inr ?_⟩;rcases h2 with rfl|h2
    ·exact b
    exact i8 h.toRight (m+1) m k i (by omega) h2 b
   simp at a
def C4{c:aq}(h:ch c): ∀(n i:Nat),i<c.Z9.length->c.Z9.length<=i+n->(zE c i).Nodup
 |0,i,w,y=>by omega
 | n+1,i,w,y=>by
   obtain⟨s,z⟩:=gE w;rw[rb h z,PM]
   have f: ∀k∈av c i true,∀m,m∈(if s.kind=2\/s.initial=(k:Nat) then zE c k else [])->m<c.Z9.length/\(m=k\/(k:Int)∈j0 c m):=fun k g m d=>by
    have v:=bJ h.toRight (aY g).1;split at d
    ·exact K6 h n k m (by omega) (by omega) d
    simp at d
   refine⟨fun d=> ?_,?_⟩
   ·obtain⟨k,g,d⟩:=PP.1 d;have v:=bJ h.toRight (aY g).1;obtain⟨x,u⟩:=f k g i d;rcases u with e|e
    ·omega
    have:=kC h.toRight 40 _ _ e;omega
   have o:=bW c i true;rw[Oe]at o;rw[Oe,List.pairwise_flatMap];refine⟨fun k g=> ?_,?_⟩
   ·have v:=bJ h.toRight (aY g).1;rw[<-Oe];split
    ·exact C4 h n k (by omega) (by omega)
    exact .nil
   refine Qi (R:=fun a b=>a≠b) ?_ o;intro A B j l t p q D r e;subst e;obtain⟨x,u⟩:=f A j p q;obtain⟨_,C⟩:=f B l p r;exact t (yw h.toRight (aY j).1 (aY l).1 (p+1) p (by omega) x u C)
def KW{c:aq}(h:ch c){i:Nat}(hi:i<c.Z9.length):(zE c i).length<=32:=by
 have b:=h.Z6;have:=(C4 h 40 i hi (by omega)).length_le_of_subset (l₂:=List.range c.Z9.length) fun m a=>NX.2 (K6 h 40 i m hi (by omega) a).1;simp at this;omega
def E7{c:aq}(h:ch c)(i:Nat):(Th c i).length<=32:=by
 have b:=h.Z6
 have:=(ml h.toRight (zL (zE c i))).length_le_of_subset (l₂:=List.range c.Z9.length) fun m a=>by
  unfold bt at a;split at a
  ·exact NX.2 ((gU h.toRight m).1 (ND.1 a).1)
  simp at a
 unfold Th;simp at this;omega
end
section
/-! The n-th ones -/
end
section
def nA(c:aq)(l:List Nat):List Nat:=(List.range c.Z9.length).filter fun k=>GS l (k:Int)
def mQ{l:List Nat}{k:Nat} :GS l (k:Int)=true↔k∈l:=by
 rw[pP];constructor
 ·rintro⟨j,a,b⟩;have:j=k:=by omega
  exact this ▸ a
 exact fun h=>⟨k,h,rfl⟩
/-! One more is none -/
end
section
attribute [go_sem] kk n7 fX Row.see AV.see AV.see.seeL Option.getD_none Option.getD_some List.any_cons List.any_nil
def L6:List (Nat×Nat):=[(1000,1000),(1001,1001),(1002,1002),(1003,1003),(1004,1004),(1005,1005)]
attribute [go_sem] L6
def RC{e:Nat->Bool}{a b:Nat}(h: ∀k∈[a,b],e k=false):e a=false/\e b=false:=by simpa using h
def Ta{e:Nat->Bool}{a b c:Nat}(h: ∀k∈[a,b,c],e k=false):e a=false/\e b=false/\e c=false:=by simpa using h
def Sf{e:Nat->Bool}{a b c d f g:Nat}(h: ∀k∈[a,b,c,d,f,g],e k=false):e a=false/\e b=false/\e c=false/\e d=false/\e f=false/\e g=false:=by simpa using h
def Up{e:Nat->Bool}{a b c d f g i:Nat}(h: ∀k∈[a,b,c,d,f,g,i],e k=false):e a=false/\e b=false/\e c=false/\e d=false/\e f=false/\e g=false/\e i=false:=by simpa using h
section
variable {P:Program} {env:b8} {nt:Nat} {Q:Exit->St->Prop} {s:St}
theorem Ul{o:Oper}{f:FuncId}{args:List AV}{rest:List No}{s1:St}{ft:fy}{K:St->List fy->Prop}{grown:Nat->Bool}{cs:(Nat->Nat)->List AV}{pre post:(Nat->Nat)->List (Nat×Row)}{res:(Nat->Nat)->AV}(L:List (Nat×Nat))(hcon:ip P env f (L.map (·.1)) grown cs pre post res)(k:jw P env rest s1 fun s2 fts=>K s2 (ft::fts))(hc:bM env s.f o=some (f,args):=by exact rfl)(hk:(L.map (·.1)).Nodup:=by decide)(hr:(L.map (·.2)).Nodup:=by decide)
 (h1:AV.ren.renL (Sw (fQ L)) args=cs (Sc L s.vs):=by simp only[go_sem]<;>rfl)(h2:zr L s.rows (pre (Sc L s.vs)):=by simp only[go_sem,NH]<;>trivial)(he:zt s L:=by simp only[go_sem,NH]<;>trivial)
 (h3: ∀o:Nat->Nat,rh L grown s.vs o (post o) (post fun _=>0) L:=by intro o;simp only[go_sem,g8,NH]<;>trivial)(h4: ∀o:Nat->Nat,(res o).ren (um (dh L) o (Fk L grown s.vs))=(res fun _=>0).ren (um (dh L) (fun _=>0) (Fk L grown s.vs)):=by intro o;simp only[go_sem]<;>rfl)
 (h5:Is ((⟨(res fun _=>0).ren (um (dh L) (fun _=>0) (Fk L grown s.vs)),L.map (lay grown (g8 L grown s.vs (post fun _=>0)))⟩:Out).app o.dst s) s1:=by simp only[go_sem,g8];exact iR)(h6:Is (⟨L.map (·.2),L.map (·.2),nb (L.map (lay grown (g8 L grown s.vs (post fun _=>0)))),zs (L.map (lay grown (g8 L grown s.vs (post fun _=>0))))⟩:fy) ft:=by simp only[go_sem,g8];exact iR):jw P env (⟨o, .always⟩::rest) s K:=iq L hc hcon hk hr h1 h2 he h3 h4 h5 h6 k
theorem iL{o:Oper}{f:FuncId}{args:List AV}{rest:List No}{s1:St}{ft:fy}{K:St->List fy->Prop}{grown:Nat->Bool}{cs:(Nat->Nat)->List AV}{pre post:(Nat->Nat)->List (Nat×Row)}{res:(Nat->Nat)->AV}(L:List (Nat×Nat))(hcon:ip P env f (L.map (·.1)) grown cs pre post res)(k:jw P env rest s1 fun s2 fts=>K s2 (ft::fts))(hc:bM env s.f o=some (f,args):=by exact rfl)(hk:(L.map (·.1)).Nodup:=by decide)(hr:(L.map (·.2)).Nodup:=by decide)
 (h1:AV.ren.renL (Sw (fQ L)) args=cs (Sc L s.vs):=by simp only[go_sem,F]<;>rfl)(h2:zr L s.rows (pre (Sc L s.vs)):=by simp only[go_sem,F,NH]<;>trivial)(he:zt s L:=by simp only[go_sem,F,NH]<;>trivial)
 (h3: ∀o:Nat->Nat,rh L grown s.vs o (post o) (post fun _=>0) L:=by intro o;simp only[go_sem,F,g8,NH]<;>trivial)(h4: ∀o:Nat->Nat,(res o).ren (um (dh L) o (Fk L grown s.vs))=(res fun _=>0).ren (um (dh L) (fun _=>0) (Fk L grown s.vs)):=by intro o;simp only[go_sem,F]<;>rfl)
 (h5:Is ((⟨(res fun _=>0).ren (um (dh L) (fun _=>0) (Fk L grown s.vs)),L.map (lay grown (g8 L grown s.vs (post fun _=>0)))⟩:Out).app o.dst s) s1:=by simp only[go_sem,F,g8];exact iR)(h6:Is (⟨L.map (·.2),L.map (·.2),nb (L.map (lay grown (g8 L grown s.vs (post fun _=>0)))),zs (L.map (lay grown (g8 L grown s.vs (post fun _=>0))))⟩:fy) ft:=by simp only[go_sem,F,g8];exact iR):jw P env (⟨o, .always⟩::rest) s K:=iq L hc hcon hk hr h1 h2 he h3 h4 h5 h6 k
theorem TI{c:Code}{s1:St}{row:Row}{e:List AV}(r r2 i j:Nat)(ty:TypeId)(sz:Nat)(h:fp P env nt c Q s1)(hr:Is (s.rows r) (some row):=by simp only[go_sem];exact iR)(hi:row.es[i]? =some e:=by exact rfl)(hj:e[j]? =some (.lit (.slice none 0 0)):=by exact rfl)
 (h1:Is ((s.renew r2 ⟨sz,[],ty,true⟩ false).setRow r { row with es:=row.es.set i (e.set j (.row r2 (s.vs r2+1))) }) s1:=by simp only[go_sem];exact iR)(hne:r2≠r:=by decide)(hsz:0<sz:=by decide)(hrz:row.sz≠0:=by exact Nf _)(hp:row.pure=false:=by exact rfl):fp P env nt c Q s:=rG r r2 i j row e ty sz hne hsz hrz hp hi hj hr h1 h
theorem nC{c:Code}{s1:St}{row:Row}{e:List AV}(r r2 i j:Nat)(ty:TypeId)(sz:Nat)(h:fp P env nt c Q s1)(hr:Is (s.rows r) (some row):=by simp only[go_sem,F];exact iR)(hi:row.es[i]? =some e:=by exact rfl)(hj:e[j]? =some (.lit (.slice none 0 0)):=by exact rfl)
 (h1:Is ((s.renew r2 ⟨sz,[],ty,true⟩ false).setRow r { row with es:=row.es.set i (e.set j (.row r2 (s.vs r2+1))) }) s1:=by simp only[go_sem,F];exact iR)(hne:r2≠r:=by decide)(hsz:0<sz:=by decide)(hrz:row.sz≠0:=by exact Nf _)(hp:row.pure=false:=by exact rfl):fp P env nt c Q s:=rG r r2 i j row e ty sz hne hsz hrz hp hi hj hr h1 h
theorem rI{p:Prop}(h:p:=by
 refine aM ?_;try simp only[bD,be, ↓reduceIte,Nat.reduceEqDiff,reduceCtorEq]
 refine sQ ?_ ?_<;>simp only[go_sem,F,R9,NH,SQ,RS,AV.tuple.injEq,Qm,ne_eq]):p:=h
theorem rN{p:Prop}(h:p:=by refine Il ?_ ?_<;>simp only[go_sem,F,R9,NH,SQ,RS,AV.tuple.injEq,Qm,ne_eq]):p:=h
theorem qi{f:FuncId}{fn:Func}{c:Code}{n:Nat}{rs:Array ResultVar}{ids:List Nat}{grown:Nat->Bool}{cs:(Nat->Nat)->List AV}{pre post:(Nat->Nat)->List (Nat×Row)}{res:(Nat->Nat)->AV}(hf:P.funcs[f]? =some fn)(hc: ∀(args:Array Value)(w:World),(callFunc f args).run P w= .ok (.enter f args) w)(hn:fn.ntmps=n)(hr:fn.results=rs)
 (h: ∀vs esc,(∀k∈ids,esc k=false)->fp P env n c (KA P rs.toList ids grown vs post res) ⟨fun t=>(cs vs).getD t .any,ap (pre vs),vs,esc⟩)(hb:fn.body=some c:=by exact rfl)(hl: ∀vs,(cs vs).length<=n:=by intro _;simp):ip P env f ids grown cs pre post res:=⟨hc,fn,c,hf,hb,(by rw[hn];exact hl),(by rw[hn,hr];exact h)⟩
end
end
end Go.Proofs.YtfhkmjbjafeckaaGreatDoor
