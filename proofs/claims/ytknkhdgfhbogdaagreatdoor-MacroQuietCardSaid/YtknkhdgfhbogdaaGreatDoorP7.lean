/- What expressions come to: on a stack, and as trees: the same. No program is named here. -/
import Derived.Test.YtknkhdgfhbogdaaGreatDoorP6
set_option linter.unusedSimpArgs false
set_option linter.defProp false
namespace Go.Proofs.YtknkhdgfhbogdaaGreatDoor
open Go.RowKit
structure ph where
 vars:List Int
 data:Int
 act:List Bool
def No(b:Bool):Int:=if b then 1 else 0
def l'(w:ph)(o:lf):Int:=if o.kind=1 then o.n else if o.kind=2 then w.vars.getD o.n.toNat 0 else if o.kind=4 then No (w.act.getD o.n.toNat false) else w.data
def Qe(k a:Int):Int:=if k=6 then No (a==0) else 0-a
def E'(k a b:Int):Bool:=if k=12 then decide (a<b) else if k=13 then decide (b<a) else if k=14 then decide (a<=b) else if k=15 then decide (b<=a) else if k=16 then a==b else a != b
def jt(k a b:Int):Int×Bool:=
 if k=7 then(a*b,aL (a*b))
 else if k=8 then(if b=0 then(0,false) else(a.tdiv b,true))
 else if k=9 then(if b=0 then(0,false) else(a.tmod b,true))
 else if k=10 then(a+b,aL (a+b))
 else if k=11 then(a-b,aL (a-b))
 else if k=18 then(No (a != 0&&b != 0),true)
 else if k=19 then(No (a != 0||b != 0),true)
 else(No (E' k a b),true)
def dr(w:ph)(o:lf)(s:List Int):Option (List Int):=
 if o.kind<=4 then some (l' w o::s)
 else if o.kind<=6 then(match s with
  |a::s=>some (Qe o.kind a::s)
  |[]=>none)
 else match s with
  |b::a::s=>if (jt o.kind a b).2 then some ((jt o.kind a b).1::s) else none
  |_=>none
def mT(w:ph):List lf->List Int->Option (List Int)
 |[],s=>some s
 |o::l,s=>(dr w o s).bind (mT w l)
def kl(w:ph): ∀(l m:List lf)(s:List Int),mT w (l++m) s=(mT w l s).bind (mT w m)
 |[],_,_=>rfl
 | o::l,m,s=>by
   simp only[QQ,mT];cases dr w o s with
   |none=>rfl
   |some t=>exact kl w l m t
def nk(w:ph)(o:lf)(s:List Int):mT w [o] s=dr w o s:=by
 simp only[mT];cases dr w o s<;>rfl
def fU(l:List lf):Nat->Int->Nat
 |0,_=>0
 | i+1,a=>match l[i]? with
   |some o=>if a-1+aF o.kind=0 then i else fU l i (a-1+aF o.kind)
   |none=>0
def vu(l:List lf): ∀(i:Nat)(n:Int),fU l i n<=i
 |0,_=>Lr 0
 | i+1,n=>by
   unfold fU;split
   ·split
    ·omega
    have:=vu l i (n-1+aF ‹lf›.kind);omega
   omega
def mg(l m:List lf): ∀(i:Nat)(n:Int),i<=l.length->fU (l++m) i n=fU l i n
 |0,_,_=>rfl
 | i+1,n,h=>by
   unfold fU;rw[MY (by omega)];cases l[i]? with
   |none=>rfl
   |some o=>simp only[mg l m i _ (by omega)]
def gu(w:ph):Nat->List lf->Int×Bool
 |0,_=>(0,false)
 | f+1,a=>match a[a.length-1]? with
   |none=>(0,false)
   | some o=>
     if o.kind<=4 then(l' w o,true)
     else if o.kind=5 then(0-(gu w f (a.take (a.length-1))).1,(gu w f (a.take (a.length-1))).2)
     else if o.kind=6 then(No ((gu w f (a.take (a.length-1))).1==0),(gu w f (a.take (a.length-1))).2)
     else if (gu w f (a.take (fU a (a.length-1) 1))).2&&(gu w f ((a.take (a.length-1)).drop (fU a (a.length-1) 1))).2 then
      jt o.kind (gu w f (a.take (fU a (a.length-1) 1))).1 (gu w f ((a.take (a.length-1)).drop (fU a (a.length-1) 1))).1
     else(0,false)
def xz(vs ss:Int): ∀(l m:List lf)(n:Int),ql vs ss (l++m) n=(ql vs ss l n).bind (ql vs ss m)
 |[],_,_=>rfl
 | o::l,m,n=>by
   simp only[QQ,ql];split
   ·exact xz vs ss l m _
   rfl
def jO{vs ss n:Int}{o:lf}(h:cA vs ss n o=true):0<=aF o.kind/\aF o.kind<=n:=by
 simp only[cA,Li,Lt]at h;exact⟨h.1.1,h.1.2⟩
def EL{vs ss:Int} : ∀ {l:List lf}{n k:Int},ql vs ss l n=some k->0<=n->0<=k/\(l≠[]->1<=k)
 | [],n,k,h,a=>by
   simp only[ql,Le]at h;exact⟨by omega,fun h=>absurd rfl h⟩
 | o::l,n,k,h,a=>by
   simp only[ql]at h;split at h
   ·rename_i b
    have c:aF o.kind<=n:=by
     have:=jO b;exact this.2
    cases l with
    | nil=>
      simp only[ql,Le]at h;exact⟨by omega,fun _=>by omega⟩
    | cons p l=>
      have:=EL h (by omega);exact⟨this.1,fun _=>this.2 (by simp)⟩
   simp at h
def vR{vs ss n m:Int}{o:lf}(h:cA vs ss n o=true)(a:aF o.kind<=m):cA vs ss m o=true:=by
 simp only[cA,Li,Lt]at h |-;exact⟨⟨h.1.1,a⟩,h.2⟩
def Af{vs ss:Int}{l:List lf}{m:Int}(r:0<=m): ∀(i:Nat)(h:Int),i<=l.length->ql vs ss (l.take i) 0=some h->m+1<=h->ql vs ss (l.drop i) (h-m)=some 1->
 ql vs ss (l.take (fU l i (h-m))) 0=some m/\ql vs ss (l.drop (fU l i (h-m))) 0=some 1/\fU l i (h-m)<l.length
 | 0,h,_,e,q,_=>by
   simp only[List.take_zero,ql,Le]at e;omega
 | i+1,h,s,e,q,g=>by
   obtain⟨o,b,_⟩:=aS (show i<l.length by omega);have p:l.take (i+1)=l.take i++[o]:=by rw[MM,b];rfl
   have k:l.drop i=o::l.drop (i+1):=by
    rw[N1 (by omega)]
    congr 1
    rw[Lc (by omega)]at b;exact NQ b
   rw[p,xz]at e;obtain⟨c,f,a⟩:=Option.bind_eq_some_iff.1 e;simp only[ql]at a;split at a
   ·rename_i d;have t:=jO d;simp only[Le]at a;unfold fU;rw[b];simp only;have n:h-m-1+aF o.kind=c-m:=by omega
    rw[n];by_cases j:c-m=0
    ·rw[Lj j];refine⟨by rw[f];congr 1;omega,?_,by omega⟩;rw[k];simp only[ql];rw[Lj (vR d (by omega))];rw[<-g]
     congr 1
     omega
    rw[Lf j];refine Af r i c (by omega) f (by omega) ?_;rw[k];simp only[ql];rw[Lj (vR d (by omega)), <-g]
    congr 1
    omega
   simp at a
def uH{vs ss:Int}{a:List lf}(h:ql vs ss a 0=some 1): ∃l o,a=l++[o]/\cA vs ss (aF o.kind) o=true/\ql vs ss l 0=some (aF o.kind):=by
 rcases List.eq_nil_or_concat a with rfl|⟨l,o,rfl⟩
 ·simp[ql]at h
 refine⟨l,o,by simp,?_⟩;rw[List.concat_eq_append,xz]at h;obtain⟨d,c,b⟩:=Option.bind_eq_some_iff.1 h;simp only[ql]at b;split at b
 ·rename_i e;simp only[Le]at b;have:d=aF o.kind:=by omega
  subst this;exact⟨e,c⟩
 simp at b
def Jv{vs ss:Int}{l:List lf}(h:ql vs ss l 0=some 0):l=[]:=by
 cases l with
 |nil=>rfl
 |cons o l=>have:=(EL h (Po 0)).2 (by simp);omega
def Jo(l:List lf)(o:lf):(l++[o])[(l++[o]).length-1]? =some o:=by simp
def GA(l:List lf)(o:lf):(l++[o]).take ((l++[o]).length-1)=l:=by simp
def EG{k:Int}(h:0<=aF k):(aF k=0/\k<=4)\/(aF k=1/\k=5)\/(aF k=1/\k=6)\/(aF k=2/\7<=k):=by
 unfold aF at h |-;split
 ·exact .inl ⟨rfl,by omega⟩
 split
 ·rename_i a h2;rcases h2 with h2|h2
  ·exact .inr (.inl ⟨rfl,h2⟩)
  exact .inr (.inr (.inl ⟨rfl,h2⟩))
 split
 ·exact .inr (.inr (.inr ⟨rfl,by omega⟩))
 rename_i a h2 b;rw[Lf a,Lf h2,Lf b]at h;omega
def tz{vs ss:Int}{l:List lf}(h:ql vs ss l 0=some 2):ql vs ss (l.take (fU l l.length 1)) 0=some 1/\ql vs ss (l.drop (fU l l.length 1)) 0=some 1/\fU l l.length 1<l.length:=by
 have:=Af (vs:=vs) (ss:=ss) (l:=l) (m:=1) (by omega) l.length 2 (Lr _) (by rw[MC,h]) (by omega) (by rw[Mu];rfl);simpa using this
def ce(w:ph)(f:Nat)(l:List lf)(o:lf):gu w (f+1) (l++[o])=if o.kind<=4 then(l' w o,true)
 else if o.kind=5 then(0-(gu w f l).1,(gu w f l).2)
 else if o.kind=6 then(No ((gu w f l).1==0),(gu w f l).2)
 else if (gu w f (l.take (fU l l.length 1))).2&&(gu w f (l.drop (fU l l.length 1))).2 then
  jt o.kind (gu w f (l.take (fU l l.length 1))).1 (gu w f (l.drop (fU l l.length 1))).1
 else(0,false):=by
 have a:fU (l++[o]) ((l++[o]).length-1) 1=fU l l.length 1:=by
  rw[show (l++[o]).length-1=l.length by simp];exact mg l [o] _ _ (Lr _)
 conv=>lhs;unfold gu
 rw[Jo,GA,a,NX (vu l l.length 1)]
def kh(vs ss:Int)(w:ph): ∀(f:Nat)(a:List lf),a.length<=f->ql vs ss a 0=some 1-> ∀s,mT w a s=if (gu w f a).2 then some ((gu w f a).1::s) else none
 | 0,a,i,h,s=>by
   obtain rfl:a=[]:=NE.1 (by omega);simp[ql]at h
 | f+1,a,i,h,s=>by
   obtain⟨l,o,rfl,n,d⟩:=uH h;have g:l.length<=f:=by simp at i;omega
   rw[kl];rcases EG (jO n).1 with⟨e,c⟩|⟨e,c⟩|⟨e,c⟩|⟨e,c⟩
   ·rw[e]at d;obtain rfl:=Jv d;have b:gu w (f+1) ([]++[o])=(l' w o,true):=by rw[ce,Lj c]
    rw[b];simp only[mT,Mk,dr,Lj c,Mb]
   ·rw[e]at d;have b:gu w (f+1) (l++[o])=(0-(gu w f l).1,(gu w f l).2):=by rw[ce,Lf (by omega),Lj c]
    rw[b,kh vs ss w f l g d s];cases (gu w f l).2 with
    |false=>rfl
    | true=>
      simp only[Mb,Mk,nk,dr];rw[Lf (by omega),Lj (by omega)];simp only[Qe];rw[Lf (by omega)]
   ·rw[e]at d;have b:gu w (f+1) (l++[o])=(No ((gu w f l).1==0),(gu w f l).2):=by rw[ce,Lf (by omega),Lf (by omega),Lj c]
    rw[b,kh vs ss w f l g d s];cases (gu w f l).2 with
    |false=>rfl
    | true=>
      simp only[Mb,Mk,nk,dr];rw[Lf (by omega),Lj (by omega)];simp only[Qe];rw[Lj c]
   ·rw[e]at d;obtain⟨k,m,t⟩:=tz d;have b:=ce w f l o;rw[Lf (by omega),Lf (by omega),Lf (by omega)]at b;rw[b];generalize fU l l.length 1=p at*;have q:=kh vs ss w f (l.take p) (by rw[Lw];omega) k;have r:=kh vs ss w f (l.drop p) (by rw[NP];omega) m
    have j:mT w l s=(mT w (l.take p) s).bind (mT w (l.drop p)):=by
     rw[<-kl,Nw]
    rw[j,q s];cases (gu w f (l.take p)).2 with
    |false=>rfl
    | true=>
      simp only[Mb,Mk,M5];rw[r];cases (gu w f (l.drop p)).2 with
      |false=>rfl
      | true=>
        simp only[Mb,Mk,nk,dr];rw[Lf (by omega),Lf (by omega)]
/-! How large values are. -/
def bw{n:Int} :aL n=true↔ -2147483647<=n/\n<=2147483647:=by
 unfold aL;rw[Li,Lt,Lt]
def Rb(n:Int):Prop:= -4611686014132420609<=n/\n<=4611686014132420609
def gN(b:Bool):aL (No b)=true:=by cases b<;>rfl
def Dz{a b:Int}(e:aL a=true)(f:aL b=true):Rb (a*b):=by
 rw[bw]at e f;have c:a.natAbs<=2147483647:=by omega
 have d:b.natAbs<=2147483647:=by omega
 have g:(a*b).natAbs<=2147483647*2147483647:=by
  rw[Int.natAbs_mul];exact Nat.mul_le_mul c d
 unfold Rb;omega
def lF{a b:Int}(c:aL a=true):aL (a.tdiv b)=true:=by
 rw[bw]at c |-
 have:(a.tdiv b).natAbs<=a.natAbs:=by
  rw[Int.natAbs_tdiv];exact Nat.div_le_self _ _
 omega
def vP{a b:Int}(c:aL a=true):aL (a.tmod b)=true:=by
 rw[bw]at c |-
 have:(a.tmod b).natAbs<=a.natAbs:=by
  rw[Int.natAbs_tmod];exact Nat.mod_le _ _
 omega
def tH(k:Int){a b:Int}(d:aL a=true)(f:aL b=true):Rb (jt k a b).1/\((jt k a b).2=true->aL (jt k a b).1=true):=by
 have e: ∀ {n:Int},aL n=true->Rb n:=fun h=>by rw[bw]at h;unfold Rb;omega
 have c: ∀ {n:Int}{b:Bool},aL n=true->Rb (n,b).1/\((n,b).2=true->aL (n,b).1=true):=fun h=>⟨e h,fun _=>h⟩;unfold jt;split
 ·exact⟨Dz d f,id⟩
 split
 ·split
  ·exact c rfl
  exact c (lF d)
 split
 ·split
  ·exact c rfl
  exact c (vP d)
 have g:=bw.1 d;have i:=bw.1 f;split
 ·exact⟨by unfold Rb;simp only;omega,id⟩
 split
 ·exact⟨by unfold Rb;simp only;omega,id⟩
 split
 ·exact c (gN _)
 split
 ·exact c (gN _)
 exact c (gN _)
structure ph.Ok(w:ph):Prop where
 vars: ∀x∈w.vars,aL x=true
 data:aL w.data=true
def pI{w:ph}(a:w.Ok){o:lf}{vs ss:Int}(h:mZ o vs ss=true):aL (l' w o)=true:=by
 unfold l';split
 ·rename_i b;unfold mZ at h;rw[Lj b,Lt]at h;rw[bw];omega
 split
 ·rw[MJ];cases e:w.vars[o.n.toNat]? with
  |none=>rfl
  |some x=>exact a.vars x (Lh e)
 split
 ·exact gN _
 exact a.data
def Dj(k:Int){a:Int}(b:aL a=true):aL (Qe k a)=true:=by
 unfold Qe;split
 ·exact gN _
 rw[bw]at b |-;omega
def gg{w:ph}(g:w.Ok){o:lf}{vs ss:Int}(h:mZ o vs ss=true){s t:List Int}(d: ∀x∈s,aL x=true)(e:dr w o s=some t): ∀x∈t,aL x=true:=by
 unfold dr at e;split at e
 ·cases e;intro x c;rcases MI.1 c with rfl|c
  ·exact pI g h
  exact d x c
 split at e
 ·split at e
  ·cases e;intro x c;rcases MI.1 c with rfl|c
   ·exact Dj _ (d _ (by simp))
   exact d x (by simp[c])
  simp at e
 split at e
 ·split at e
  ·rename_i b a s f;cases e;intro x c;rcases MI.1 c with rfl|c
   ·exact(tH _ (d a (by simp)) (d b (by simp))).2 f
   exact d x (by simp[c])
  simp at e
 simp at e
def iQ{vs ss:Int}{w:ph}(i:w.Ok): ∀(f:Nat)(a:List lf),a.length<=f->ql vs ss a 0=some 1->Rb (gu w f a).1/\((gu w f a).2=true->aL (gu w f a).1=true)
 | 0,a,s,h=>by
   obtain rfl:a=[]:=NE.1 (by omega);simp[ql]at h
 | f+1,a,s,h=>by
   have c: ∀ {n:Int},aL n=true->Rb n:=fun h=>by rw[bw]at h;unfold Rb;omega
   obtain⟨l,o,rfl,q,j⟩:=uH h;have g:l.length<=f:=by simp at s;omega
   have b:mZ o vs ss=true:=by simp only[cA,Li]at q;exact q.2
   rcases EG (jO q).1 with⟨e,d⟩|⟨e,d⟩|⟨e,d⟩|⟨e,d⟩
   ·rw[ce,Lj d];exact⟨c (pI i b),fun _=>pI i b⟩
   ·rw[e]at j;rw[ce,Lf (by omega),Lj d];obtain⟨r,k⟩:=iQ i f l g j;refine⟨by unfold Rb at*;simp only;omega,fun h=> ?_⟩;have:=k h;rw[bw]at this |-;simp only;omega
   ·rw[ce,Lf (by omega),Lf (by omega),Lj d];exact⟨c (gN _),fun _=>gN _⟩
   rw[e]at j;obtain⟨r,k,t⟩:=tz j;rw[ce,Lf (by omega),Lf (by omega),Lf (by omega)];generalize fU l l.length 1=p at*;split
   ·rename_i m;rw[Li]at m;exact tH _ ((iQ i f _ (by rw[Lw];omega) r).2 m.1) ((iQ i f _ (by rw[NP];omega) k).2 m.2)
   exact⟨c rfl,fun _=>rfl⟩
def kO(w:ph)(a:List lf):Option Int:=if (gu w a.length a).2 then some (gu w a.length a).1 else none
def Ay{vs ss:Int}(w:ph){a:List lf}(h:ql vs ss a 0=some 1):mT w a []=(kO w a).map fun n=>[n]:=by
 rw[kh vs ss w a.length a (Lr _) h];unfold kO;split<;>rfl
def G6{vs ss:Int}{w:ph}(c:w.Ok){a:List lf}(h:ql vs ss a 0=some 1){n:Int}(e:kO w a=some n):aL n=true:=by
 unfold kO at e;split at e
 ·rename_i b;cases e;exact(iQ c a.length a (Lr _) h).2 b
 simp at e
end Go.Proofs.YtknkhdgfhbogdaaGreatDoor
