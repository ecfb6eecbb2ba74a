/- What expressions come to: on a stack, and as trees: the same. No program is named here. -/
import Derived.Test.YtfhkmjbjafeckaaGreatDoorQ6
set_option linter.unusedSimpArgs false
set_option linter.defProp false
namespace Go.Proofs.YtfhkmjbjafeckaaGreatDoor
open Go.RowKit
structure rx where
 vars:List Int
 data:Int
 act:List Bool
def PA(b:Bool):Int:=if b then 1 else 0
def m5(w:rx)(o:mu):Int:=if o.kind=1 then o.n else if o.kind=2 then w.vars.getD o.n.toNat 0 else if o.kind=4 then PA (w.act.getD o.n.toNat false) else w.data
def RW(k a:Int):Int:=if k=6 then PA (a==0) else 0-a
def F'(k a b:Int):Bool:=if k=12 then decide (a<b) else if k=13 then decide (b<a) else if k=14 then decide (a<=b) else if k=15 then decide (b<=a) else if k=16 then a==b else a != b
def kX(k a b:Int):Int×Bool:=
 if k=7 then(a*b,aJ (a*b))
 else if k=8 then(if b=0 then(0,false) else(a.tdiv b,true))
 else if k=9 then(if b=0 then(0,false) else(a.tmod b,true))
 else if k=10 then(a+b,aJ (a+b))
 else if k=11 then(a-b,aJ (a-b))
 else if k=18 then(PA (a != 0&&b != 0),true)
 else if k=19 then(PA (a != 0||b != 0),true)
 else(PA (F' k a b),true)
def eA(w:rx)(o:mu)(s:List Int):Option (List Int):=
 if o.kind<=4 then some (m5 w o::s)
 else if o.kind<=6 then(match s with
  |a::s=>some (RW o.kind a::s)
  |[]=>none)
 else match s with
  |b::a::s=>if (kX o.kind a b).2 then some ((kX o.kind a b).1::s) else none
  |_=>none
def nI(w:rx):List mu->List Int->Option (List Int)
 |[],s=>some s
 |o::l,s=>(eA w o s).bind (nI w l)
def lN(w:rx): ∀(l m:List mu)(s:List Int),nI w (l++m) s=(nI w l s).bind (nI w m)
 |[],_,_=>rfl
 | o::l,m,s=>by
   simp only[RI,nI];cases eA w o s with
   |none=>rfl
   |some t=>exact lN w l m t
def oh(w:rx)(o:mu)(s:List Int):nI w [o] s=eA w o s:=by
 simp only[nI];cases eA w o s<;>rfl
def gv(l:List mu):Nat->Int->Nat
 |0,_=>0
 | i+1,a=>match l[i]? with
   |some o=>if a-1+aF o.kind=0 then i else gv l i (a-1+aF o.kind)
   |none=>0
def xI(l:List mu): ∀(i:Nat)(n:Int),gv l i n<=i
 |0,_=>ND 0
 | i+1,n=>by
   unfold gv;split
   ·split
    ·omega
    have:=xI l i (n-1+aF ‹mu›.kind);omega
   omega
def nV(l m:List mu): ∀(i:Nat)(n:Int),i<=l.length->gv (l++m) i n=gv l i n
 |0,_,_=>rfl
 | i+1,n,h=>by
   unfold gv;rw[N9 (by omega)];cases l[i]? with
   |none=>rfl
   |some o=>simp only[nV l m i _ (by omega)]
def g9(w:rx):Nat->List mu->Int×Bool
 |0,_=>(0,false)
 | f+1,a=>match a[a.length-1]? with
   |none=>(0,false)
   | some o=>
     if o.kind<=4 then(m5 w o,true)
     else if o.kind=5 then(0-(g9 w f (a.take (a.length-1))).1,(g9 w f (a.take (a.length-1))).2)
     else if o.kind=6 then(PA ((g9 w f (a.take (a.length-1))).1==0),(g9 w f (a.take (a.length-1))).2)
     else if (g9 w f (a.take (gv a (a.length-1) 1))).2&&(g9 w f ((a.take (a.length-1)).drop (gv a (a.length-1) 1))).2 then
      kX o.kind (g9 w f (a.take (gv a (a.length-1) 1))).1 (g9 w f ((a.take (a.length-1)).drop (gv a (a.length-1) 1))).1
     else(0,false)
def zM(vs ss:Int): ∀(l m:List mu)(n:Int),sh vs ss (l++m) n=(sh vs ss l n).bind (sh vs ss m)
 |[],_,_=>rfl
 | o::l,m,n=>by
   simp only[RI,sh];split
   ·exact zM vs ss l m _
   rfl
def jX{vs ss n:Int}{o:mu}(h:cE vs ss n o=true):0<=aF o.kind/\aF o.kind<=n:=by
 simp only[cE,Mx,NI]at h;exact⟨h.1.1,h.1.2⟩
def F2{vs ss:Int} : ∀ {l:List mu}{n k:Int},sh vs ss l n=some k->0<=n->0<=k/\(l≠[]->1<=k)
 | [],n,k,h,a=>by
   simp only[sh,Mu]at h;exact⟨by omega,fun h=>absurd rfl h⟩
 | o::l,n,k,h,a=>by
   simp only[sh]at h;split at h
   ·rename_i b
    have c:aF o.kind<=n:=by
     have:=jX b;exact this.2
    cases l with
    | nil=>
      simp only[sh,Mu]at h;exact⟨by omega,fun _=>by omega⟩
    | cons p l=>
      have:=F2 h (by omega);exact⟨this.1,fun _=>this.2 (by simp)⟩
   simp at h
def wW{vs ss n m:Int}{o:mu}(h:cE vs ss n o=true)(a:aF o.kind<=m):cE vs ss m o=true:=by
 simp only[cE,Mx,NI]at h |-;exact⟨⟨h.1.1,a⟩,h.2⟩
def Bu{vs ss:Int}{l:List mu}{m:Int}(r:0<=m): ∀(i:Nat)(h:Int),i<=l.length->sh vs ss (l.take i) 0=some h->m+1<=h->sh vs ss (l.drop i) (h-m)=some 1->
 sh vs ss (l.take (gv l i (h-m))) 0=some m/\sh vs ss (l.drop (gv l i (h-m))) 0=some 1/\gv l i (h-m)<l.length
 | 0,h,_,e,q,_=>by
   simp only[List.take_zero,sh,Mu]at e;omega
 | i+1,h,s,e,q,g=>by
   obtain⟨o,b,_⟩:=aS (show i<l.length by omega);have p:l.take (i+1)=l.take i++[o]:=by rw[N4,b];rfl
   have k:l.drop i=o::l.drop (i+1):=by
    rw[Ol (by omega)]
    congr 1
    rw[Ms (by omega)]at b;exact OV b
   rw[p,zM]at e;obtain⟨c,f,a⟩:=Option.bind_eq_some_iff.1 e;simp only[sh]at a;split at a
   ·rename_i d;have t:=jX d;simp only[Mu]at a;unfold gv;rw[b];simp only;have n:h-m-1+aF o.kind=c-m:=by omega
    rw[n];by_cases j:c-m=0
    ·rw[Mw j];refine⟨by rw[f];congr 1;omega,?_,by omega⟩;rw[k];simp only[sh];rw[Mw (wW d (by omega))];rw[<-g]
     congr 1
     omega
    rw[Mv j];refine Bu r i c (by omega) f (by omega) ?_;rw[k];simp only[sh];rw[Mw (wW d (by omega)), <-g]
    congr 1
    omega
   simp at a
def vC{vs ss:Int}{a:List mu}(h:sh vs ss a 0=some 1): ∃l o,a=l++[o]/\cE vs ss (aF o.kind) o=true/\sh vs ss l 0=some (aF o.kind):=by
 rcases List.eq_nil_or_concat a with rfl|⟨l,o,rfl⟩
 ·simp[sh]at h
 refine⟨l,o,by simp,?_⟩;rw[List.concat_eq_append,zM]at h;obtain⟨d,c,b⟩:=Option.bind_eq_some_iff.1 h;simp only[sh]at b;split at b
 ·rename_i e;simp only[Mu]at b;have:d=aF o.kind:=by omega
  subst this;exact⟨e,c⟩
 simp at b
def LM{vs ss:Int}{l:List mu}(h:sh vs ss l 0=some 0):l=[]:=by
 cases l with
 |nil=>rfl
 |cons o l=>have:=(F2 h (RP 0)).2 (by simp);omega
def LF(l:List mu)(o:mu):(l++[o])[(l++[o]).length-1]? =some o:=by simp
def H2(l:List mu)(o:mu):(l++[o]).take ((l++[o]).length-1)=l:=by simp
def FW{k:Int}(h:0<=aF k):(aF k=0/\k<=4)\/(aF k=1/\k=5)\/(aF k=1/\k=6)\/(aF k=2/\7<=k):=by
 unfold aF at h |-;split
 ·exact .inl ⟨rfl,by omega⟩
 split
 ·rename_i a h2;rcases h2 with h2|h2
  ·exact .inr (.inl ⟨rfl,h2⟩)
  exact .inr (.inr (.inl ⟨rfl,h2⟩))
 split
 ·exact .inr (.inr (.inr ⟨rfl,by omega⟩))
 rename_i a h2 b;rw[Mv a,Mv h2,Mv b]at h;omega
def uu{vs ss:Int}{l:List mu}(h:sh vs ss l 0=some 2):sh vs ss (l.take (gv l l.length 1)) 0=some 1/\sh vs ss (l.drop (gv l l.length 1)) 0=some 1/\gv l l.length 1<l.length:=by
 have:=Bu (vs:=vs) (ss:=ss) (l:=l) (m:=1) (by omega) l.length 2 (ND _) (by rw[NS,h]) (by omega) (by rw[OE];rfl);simpa using this
def ck(w:rx)(f:Nat)(l:List mu)(o:mu):g9 w (f+1) (l++[o])=if o.kind<=4 then(m5 w o,true)
 else if o.kind=5 then(0-(g9 w f l).1,(g9 w f l).2)
 else if o.kind=6 then(PA ((g9 w f l).1==0),(g9 w f l).2)
 else if (g9 w f (l.take (gv l l.length 1))).2&&(g9 w f (l.drop (gv l l.length 1))).2 then
  kX o.kind (g9 w f (l.take (gv l l.length 1))).1 (g9 w f (l.drop (gv l l.length 1))).1
 else(0,false):=by
 have a:gv (l++[o]) ((l++[o]).length-1) 1=gv l l.length 1:=by
  rw[show (l++[o]).length-1=l.length by simp];exact nV l [o] _ _ (ND _)
 conv=>lhs;unfold g9
 rw[LF,H2,a,Og (xI l l.length 1)]
def lJ(vs ss:Int)(w:rx): ∀(f:Nat)(a:List mu),a.length<=f->sh vs ss a 0=some 1-> ∀s,nI w a s=if (g9 w f a).2 then some ((g9 w f a).1::s) else none
 | 0,a,i,h,s=>by
   obtain rfl:a=[]:=OZ.1 (by omega);simp[sh]at h
 | f+1,a,i,h,s=>by
   obtain⟨l,o,rfl,n,d⟩:=vC h;have g:l.length<=f:=by simp at i;omega
   rw[lN];rcases FW (jX n).1 with⟨e,c⟩|⟨e,c⟩|⟨e,c⟩|⟨e,c⟩
   ·rw[e]at d;obtain rfl:=LM d;have b:g9 w (f+1) ([]++[o])=(m5 w o,true):=by rw[ck,Mw c]
    rw[b];simp only[nI,OD,eA,Mw c,Nn]
   ·rw[e]at d;have b:g9 w (f+1) (l++[o])=(0-(g9 w f l).1,(g9 w f l).2):=by rw[ck,Mv (by omega),Mw c]
    rw[b,lJ vs ss w f l g d s];cases (g9 w f l).2 with
    |false=>rfl
    | true=>
      simp only[Nn,OD,oh,eA];rw[Mv (by omega),Mw (by omega)];simp only[RW];rw[Mv (by omega)]
   ·rw[e]at d;have b:g9 w (f+1) (l++[o])=(PA ((g9 w f l).1==0),(g9 w f l).2):=by rw[ck,Mv (by omega),Mv (by omega),Mw c]
    rw[b,lJ vs ss w f l g d s];cases (g9 w f l).2 with
    |false=>rfl
    | true=>
      simp only[Nn,OD,oh,eA];rw[Mv (by omega),Mw (by omega)];simp only[RW];rw[Mw c]
   ·rw[e]at d;obtain⟨k,m,t⟩:=uu d;have b:=ck w f l o;rw[Mv (by omega),Mv (by omega),Mv (by omega)]at b;rw[b];generalize gv l l.length 1=p at*;have q:=lJ vs ss w f (l.take p) (by rw[NK];omega) k;have r:=lJ vs ss w f (l.drop p) (by rw[O7];omega) m
    have j:nI w l s=(nI w (l.take p) s).bind (nI w (l.drop p)):=by
     rw[<-lN,PU]
    rw[j,q s];cases (g9 w f (l.take p)).2 with
    |false=>rfl
    | true=>
      simp only[Nn,OD,Np];rw[r];cases (g9 w f (l.drop p)).2 with
      |false=>rfl
      | true=>
        simp only[Nn,OD,oh,eA];rw[Mv (by omega),Mv (by omega)]
/-! How large values are. -/
def cA{n:Int} :aJ n=true↔ -2147483647<=n/\n<=2147483647:=by
 unfold aJ;rw[Mx,NI,NI]
def Sx(n:Int):Prop:= -4611686014132420609<=n/\n<=4611686014132420609
def gW(b:Bool):aJ (PA b)=true:=by cases b<;>rfl
def FO{a b:Int}(e:aJ a=true)(f:aJ b=true):Sx (a*b):=by
 rw[cA]at e f;have c:a.natAbs<=2147483647:=by omega
 have d:b.natAbs<=2147483647:=by omega
 have g:(a*b).natAbs<=2147483647*2147483647:=by
  rw[Int.natAbs_mul];exact Nat.mul_le_mul c d
 unfold Sx;omega
def l7{a b:Int}(c:aJ a=true):aJ (a.tdiv b)=true:=by
 rw[cA]at c |-
 have:(a.tdiv b).natAbs<=a.natAbs:=by
  rw[Int.natAbs_tdiv];exact Nat.div_le_self _ _
 omega
def wT{a b:Int}(c:aJ a=true):aJ (a.tmod b)=true:=by
 rw[cA]at c |-
 have:(a.tmod b).natAbs<=a.natAbs:=by
  rw[Int.natAbs_tmod];exact Nat.mod_le _ _
 omega
def uS(k:Int){a b:Int}(d:aJ a=true)(f:aJ b=true):Sx (kX k a b).1/\((kX k a b).2=true->aJ (kX k a b).1=true):=by
 have e: ∀ {n:Int},aJ n=true->Sx n:=fun h=>by rw[cA]at h;unfold Sx;omega
 have c: ∀ {n:Int}{b:Bool},aJ n=true->Sx (n,b).1/\((n,b).2=true->aJ (n,b).1=true):=fun h=>⟨e h,fun _=>h⟩;unfold kX;split
 ·exact⟨FO d f,id⟩
 split
 ·split
  ·exact c rfl
  exact c (l7 d)
 split
 ·split
  ·exact c rfl
  exact c (wT d)
 have g:=cA.1 d;have i:=cA.1 f;split
 ·exact⟨by unfold Sx;simp only;omega,id⟩
 split
 ·exact⟨by unfold Sx;simp only;omega,id⟩
 split
 ·exact c (gW _)
 split
 ·exact c (gW _)
 exact c (gW _)
structure rx.Ok(w:rx):Prop where
 vars: ∀x∈w.vars,aJ x=true
 data:aJ w.data=true
def qC{w:rx}(a:w.Ok){o:mu}{vs ss:Int}(h:nP o vs ss=true):aJ (m5 w o)=true:=by
 unfold m5;split
 ·rename_i b;unfold nP at h;rw[Mw b,NI]at h;rw[cA];omega
 split
 ·rw[N3];cases e:w.vars[o.n.toNat]? with
  |none=>rfl
  |some x=>exact a.vars x (My e)
 split
 ·exact gW _
 exact a.data
def Ew(k:Int){a:Int}(b:aJ a=true):aJ (RW k a)=true:=by
 unfold RW;split
 ·exact gW _
 rw[cA]at b |-;omega
def gz{w:rx}(g:w.Ok){o:mu}{vs ss:Int}(h:nP o vs ss=true){s t:List Int}(d: ∀x∈s,aJ x=true)(e:eA w o s=some t): ∀x∈t,aJ x=true:=by
 unfold eA at e;split at e
 ·cases e;intro x c;rcases NX.1 c with rfl|c
  ·exact qC g h
  exact d x c
 split at e
 ·split at e
  ·cases e;intro x c;rcases NX.1 c with rfl|c
   ·exact Ew _ (d _ (by simp))
   exact d x (by simp[c])
  simp at e
 split at e
 ·split at e
  ·rename_i b a s f;cases e;intro x c;rcases NX.1 c with rfl|c
   ·exact(uS _ (d a (by simp)) (d b (by simp))).2 f
   exact d x (by simp[c])
  simp at e
 simp at e
def i8{vs ss:Int}{w:rx}(i:w.Ok): ∀(f:Nat)(a:List mu),a.length<=f->sh vs ss a 0=some 1->Sx (g9 w f a).1/\((g9 w f a).2=true->aJ (g9 w f a).1=true)
 | 0,a,s,h=>by
   obtain rfl:a=[]:=OZ.1 (by omega);simp[sh]at h
 | f+1,a,s,h=>by
   have c: ∀ {n:Int},aJ n=true->Sx n:=fun h=>by rw[cA]at h;unfold Sx;omega
   obtain⟨l,o,rfl,q,j⟩:=vC h;have g:l.length<=f:=by simp at s;omega
   have b:nP o vs ss=true:=by simp only[cE,Mx]at q;exact q.2
   rcases FW (jX q).1 with⟨e,d⟩|⟨e,d⟩|⟨e,d⟩|⟨e,d⟩
   ·rw[ck,Mw d];exact⟨c (qC i b),fun _=>qC i b⟩
   ·rw[e]at j;rw[ck,Mv (by omega),Mw d];obtain⟨r,k⟩:=i8 i f l g j;refine⟨by unfold Sx at*;simp only;omega,fun h=> ?_⟩;have:=k h;rw[cA]at this |-;simp only;omega
   ·rw[ck,Mv (by omega),Mv (by omega),Mw d];exact⟨c (gW _),fun _=>gW _⟩
   rw[e]at j;obtain⟨r,k,t⟩:=uu j;rw[ck,Mv (by omega),Mv (by omega),Mv (by omega)];generalize gv l l.length 1=p at*;split
   ·rename_i m;rw[Mx]at m;exact uS _ ((i8 i f _ (by rw[NK];omega) r).2 m.1) ((i8 i f _ (by rw[O7];omega) k).2 m.2)
   exact⟨c rfl,fun _=>rfl⟩
def ki(w:rx)(a:List mu):Option Int:=if (g9 w a.length a).2 then some (g9 w a.length a).1 else none
def CO{vs ss:Int}(w:rx){a:List mu}(h:sh vs ss a 0=some 1):nI w a []=(ki w a).map fun n=>[n]:=by
 rw[lJ vs ss w a.length a (ND _) h];unfold ki;split<;>rfl
def Ht{vs ss:Int}{w:rx}(c:w.Ok){a:List mu}(h:sh vs ss a 0=some 1){n:Int}(e:ki w a=some n):aJ n=true:=by
 unfold ki at e;split at e
 ·rename_i b;cases e;exact(i8 c a.length a (ND _) h).2 b
 simp at e
end Go.Proofs.YtfhkmjbjafeckaaGreatDoor
