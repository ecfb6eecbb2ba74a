/- What expressions come to: on a stack, and as trees: the same. No program is named here. -/
import Derived.Test.YtfcdkaolcdglmaaGreatDoorP6
set_option linter.unusedSimpArgs false
set_option linter.defProp false
namespace Go.Proofs.YtfcdkaolcdglmaaGreatDoor
open Go.RowKit
structure u0 where
 vars:List Int
 data:Int
 act:List Bool
def U6(b:Bool):Int:=if b then 1 else 0
def m9(w:u0)(o:mw):Int:=if o.kind=1 then o.n else if o.kind=2 then w.vars.getD o.n.toNat 0 else if o.kind=4 then U6 (w.act.getD o.n.toNat false) else w.data
def UG(k a:Int):Int:=if k=6 then U6 (a==0) else 0-a
def U8(k a b:Int):Bool:=if k=12 then decide (a<b) else if k=13 then decide (b<a) else if k=14 then decide (a<=b) else if k=15 then decide (b<=a) else if k=16 then a==b else a != b
def nr(k a b:Int):Int×Bool:=
 if k=7 then(a*b,aL (a*b))
 else if k=8 then(if b=0 then(0,false) else(a.tdiv b,true))
 else if k=9 then(if b=0 then(0,false) else(a.tmod b,true))
 else if k=10 then(a+b,aL (a+b))
 else if k=11 then(a-b,aL (a-b))
 else if k=18 then(U6 (a != 0&&b != 0),true)
 else if k=19 then(U6 (a != 0||b != 0),true)
 else(U6 (U8 k a b),true)
def dx(w:u0)(o:mw)(s:List Int):Option (List Int):=
 if o.kind<=4 then some (m9 w o::s)
 else if o.kind<=6 then(match s with
  |a::s=>some (UG o.kind a::s)
  |[]=>none)
 else match s with
  |b::a::s=>if (nr o.kind a b).2 then some ((nr o.kind a b).1::s) else none
  |_=>none
def ml(w:u0):List mw->List Int->Option (List Int)
 |[],s=>some s
 |o::l,s=>(dx w o s).bind (ml w l)
def lJ(w:u0): ∀(l m:List mw)(s:List Int),ml w (l++m) s=(ml w l s).bind (ml w m)
 |[],_,_=>rfl
 | o::l,m,s=>by
   simp only[TQ,ml];cases dx w o s with
   |none=>rfl
   |some t=>exact lJ w l m t
def o8(w:u0)(o:mw)(s:List Int):ml w [o] s=dx w o s:=by
 simp only[ml];cases dx w o s<;>rfl
def jt(l:List mw):Nat->Int->Nat
 |0,_=>0
 | i+1,a=>match l[i]? with
   |some o=>if a-1+aC o.kind=0 then i else jt l i (a-1+aC o.kind)
   |none=>0
def wN(l:List mw): ∀(i:Nat)(n:Int),jt l i n<=i
 |0,_=>OO 0
 | i+1,n=>by
   unfold jt;split
   ·split
    ·omega
    have:=wN l i (n-1+aC ‹mw›.kind);omega
   omega
def so(l m:List mw): ∀(i:Nat)(n:Int),i<=l.length->jt (l++m) i n=jt l i n
 |0,_,_=>rfl
 | i+1,n,h=>by
   unfold jt;rw[Oq (by omega)];cases l[i]? with
   |none=>rfl
   |some o=>simp only[so l m i _ (by omega)]
def bY(w:u0):Nat->List mw->Int×Bool
 |0,_=>(0,false)
 | f+1,a=>match a[a.length-1]? with
   |none=>(0,false)
   | some o=>
     if o.kind<=4 then(m9 w o,true)
     else if o.kind=5 then(0-(bY w f (a.take (a.length-1))).1,(bY w f (a.take (a.length-1))).2)
     else if o.kind=6 then(U6 ((bY w f (a.take (a.length-1))).1==0),(bY w f (a.take (a.length-1))).2)
     else if (bY w f (a.take (jt a (a.length-1) 1))).2&&(bY w f ((a.take (a.length-1)).drop (jt a (a.length-1) 1))).2 then
      nr o.kind (bY w f (a.take (jt a (a.length-1) 1))).1 (bY w f ((a.take (a.length-1)).drop (jt a (a.length-1) 1))).1
     else(0,false)
def yW(vs ss:Int): ∀(l m:List mw)(n:Int),um vs ss (l++m) n=(um vs ss l n).bind (um vs ss m)
 |[],_,_=>rfl
 | o::l,m,n=>by
   simp only[TQ,um];split
   ·exact yW vs ss l m _
   rfl
def jX{vs ss n:Int}{o:mw}(h:bp vs ss n o=true):0<=aC o.kind/\aC o.kind<=n:=by
 simp only[bp,OJ,OR]at h;exact⟨h.1.1,h.1.2⟩
def FG{vs ss:Int} : ∀ {l:List mw}{n k:Int},um vs ss l n=some k->0<=n->0<=k/\(l≠[]->1<=k)
 | [],n,k,h,a=>by
   simp only[um,OH]at h;exact⟨by omega,fun h=>absurd rfl h⟩
 | o::l,n,k,h,a=>by
   simp only[um]at h;split at h
   ·rename_i b
    have c:aC o.kind<=n:=by
     have:=jX b;exact this.2
    cases l with
    | nil=>
      simp only[um,OH]at h;exact⟨by omega,fun _=>by omega⟩
    | cons p l=>
      have:=FG h (by omega);exact⟨this.1,fun _=>this.2 (by simp)⟩
   simp at h
def vh{vs ss n m:Int}{o:mw}(h:bp vs ss n o=true)(a:aC o.kind<=m):bp vs ss m o=true:=by
 simp only[bp,OJ,OR]at h |-;exact⟨⟨h.1.1,a⟩,h.2⟩
def B6{vs ss:Int}{l:List mw}{m:Int}(r:0<=m): ∀(i:Nat)(h:Int),i<=l.length->um vs ss (l.take i) 0=some h->m+1<=h->um vs ss (l.drop i) (h-m)=some 1->
 um vs ss (l.take (jt l i (h-m))) 0=some m/\um vs ss (l.drop (jt l i (h-m))) 0=some 1/\jt l i (h-m)<l.length
 | 0,h,_,e,q,_=>by
   simp only[Ta,um,OH]at e;omega
 | i+1,h,s,e,q,g=>by
   obtain⟨o,b,_⟩:=aT (show i<l.length by omega);have p:l.take (i+1)=l.take i++[o]:=by rw[Ot,b];rfl
   have k:l.drop i=o::l.drop (i+1):=by
    rw[QM (by omega)]
    congr 1
    rw[OE (by omega)]at b;exact Pq b
   rw[p,yW]at e;obtain⟨c,f,a⟩:=Option.bind_eq_some_iff.1 e;simp only[um]at a;split at a
   ·rename_i d;have t:=jX d;simp only[OH]at a;unfold jt;rw[b];simp only;have n:h-m-1+aC o.kind=c-m:=by omega
    rw[n];by_cases j:c-m=0
    ·rw[OL j];refine⟨by rw[f];congr 1;omega,?_,by omega⟩;rw[k];simp only[um];rw[OL (vh d (by omega))];rw[<-g]
     congr 1
     omega
    rw[OK j];refine B6 r i c (by omega) f (by omega) ?_;rw[k];simp only[um];rw[OL (vh d (by omega)), <-g]
    congr 1
    omega
   simp at a
def Bb{vs ss:Int}{a:List mw}(h:um vs ss a 0=some 1): ∃l o,a=l++[o]/\bp vs ss (aC o.kind) o=true/\um vs ss l 0=some (aC o.kind):=by
 rcases List.eq_nil_or_concat a with rfl|⟨l,o,rfl⟩
 ·simp[um]at h
 refine⟨l,o,by simp,?_⟩;rw[List.concat_eq_append,yW]at h;obtain⟨d,c,b⟩:=Option.bind_eq_some_iff.1 h;simp only[um]at b;split at b
 ·rename_i e;simp only[OH]at b;have:d=aC o.kind:=by omega
  subst this;exact⟨e,c⟩
 simp at b
def MG{vs ss:Int}{l:List mw}(h:um vs ss l 0=some 0):l=[]:=by
 cases l with
 |nil=>rfl
 |cons o l=>have:=(FG h (Si 0)).2 (by simp);omega
def Lz(l:List mw)(o:mw):(l++[o])[(l++[o]).length-1]? =some o:=by simp
def H7(l:List mw)(o:mw):(l++[o]).take ((l++[o]).length-1)=l:=by simp
def Ez{k:Int}(h:0<=aC k):(aC k=0/\k<=4)\/(aC k=1/\k=5)\/(aC k=1/\k=6)\/(aC k=2/\7<=k):=by
 unfold aC at h |-;split
 ·exact .inl ⟨rfl,by omega⟩
 split
 ·rename_i a h2;rcases h2 with h2|h2
  ·exact .inr (.inl ⟨rfl,h2⟩)
  exact .inr (.inr (.inl ⟨rfl,h2⟩))
 split
 ·exact .inr (.inr (.inr ⟨rfl,by omega⟩))
 rename_i a h2 b;rw[OK a,OK h2,OK b]at h;omega
def B5{vs ss:Int}{l:List mw}(h:um vs ss l 0=some 2):um vs ss (l.take (jt l l.length 1)) 0=some 1/\um vs ss (l.drop (jt l l.length 1)) 0=some 1/\jt l l.length 1<l.length:=by
 have:=B6 (vs:=vs) (ss:=ss) (l:=l) (m:=1) (by omega) l.length 2 (OO _) (by rw[Ob,h]) (by omega) (by rw[Q3];rfl);simpa using this
def dO(w:u0)(f:Nat)(l:List mw)(o:mw):bY w (f+1) (l++[o])=if o.kind<=4 then(m9 w o,true)
 else if o.kind=5 then(0-(bY w f l).1,(bY w f l).2)
 else if o.kind=6 then(U6 ((bY w f l).1==0),(bY w f l).2)
 else if (bY w f (l.take (jt l l.length 1))).2&&(bY w f (l.drop (jt l l.length 1))).2 then
  nr o.kind (bY w f (l.take (jt l l.length 1))).1 (bY w f (l.drop (jt l l.length 1))).1
 else(0,false):=by
 have a:jt (l++[o]) ((l++[o]).length-1) 1=jt l l.length 1:=by
  rw[show (l++[o]).length-1=l.length by simp];exact so l [o] _ _ (OO _)
 conv=>lhs;unfold bY
 rw[Lz,H7,a,Px (wN l l.length 1)]
def lH(vs ss:Int)(w:u0): ∀(f:Nat)(a:List mw),a.length<=f->um vs ss a 0=some 1-> ∀s,ml w a s=if (bY w f a).2 then some ((bY w f a).1::s) else none
 | 0,a,i,h,s=>by
   obtain rfl:a=[]:=QV.1 (by omega);simp[um]at h
 | f+1,a,i,h,s=>by
   obtain⟨l,o,rfl,n,d⟩:=Bb h;have g:l.length<=f:=by simp at i;omega
   rw[lJ];rcases Ez (jX n).1 with⟨e,c⟩|⟨e,c⟩|⟨e,c⟩|⟨e,c⟩
   ·rw[e]at d;obtain rfl:=MG d;have b:bY w (f+1) ([]++[o])=(m9 w o,true):=by rw[dO,OL c]
    rw[b];simp only[ml,Oo,dx,OL c,PW]
   ·rw[e]at d;have b:bY w (f+1) (l++[o])=(0-(bY w f l).1,(bY w f l).2):=by rw[dO,OK (by omega),OL c]
    rw[b,lH vs ss w f l g d s];cases (bY w f l).2 with
    |false=>rfl
    | true=>
      simp only[PW,Oo,o8,dx];rw[OK (by omega),OL (by omega)];simp only[UG];rw[OK (by omega)]
   ·rw[e]at d;have b:bY w (f+1) (l++[o])=(U6 ((bY w f l).1==0),(bY w f l).2):=by rw[dO,OK (by omega),OK (by omega),OL c]
    rw[b,lH vs ss w f l g d s];cases (bY w f l).2 with
    |false=>rfl
    | true=>
      simp only[PW,Oo,o8,dx];rw[OK (by omega),OL (by omega)];simp only[UG];rw[OL c]
   ·rw[e]at d;obtain⟨k,m,t⟩:=B5 d;have b:=dO w f l o;rw[OK (by omega),OK (by omega),OK (by omega)]at b;rw[b];generalize jt l l.length 1=p at*;have q:=lH vs ss w f (l.take p) (by rw[OZ];omega) k;have r:=lH vs ss w f (l.drop p) (by rw[QF];omega) m
    have j:ml w l s=(ml w (l.take p) s).bind (ml w (l.drop p)):=by
     rw[<-lJ,Qn]
    rw[j,q s];cases (bY w f (l.take p)).2 with
    |false=>rfl
    | true=>
      simp only[PW,Oo,PQ];rw[r];cases (bY w f (l.drop p)).2 with
      |false=>rfl
      | true=>
        simp only[PW,Oo,o8,dx];rw[OK (by omega),OK (by omega)]
/-! How large values are. -/
def bm{n:Int} :aL n=true↔ -2147483647<=n/\n<=2147483647:=by
 unfold aL;rw[OJ,OR,OR]
def Vb(n:Int):Prop:= -4611686014132420609<=n/\n<=4611686014132420609
def gK(b:Bool):aL (U6 b)=true:=by cases b<;>rfl
def Lp{a b:Int}(e:aL a=true)(f:aL b=true):Vb (a*b):=by
 rw[bm]at e f;have c:a.natAbs<=2147483647:=by omega
 have d:b.natAbs<=2147483647:=by omega
 have g:(a*b).natAbs<=2147483647*2147483647:=by
  rw[Int.natAbs_mul];exact Nat.mul_le_mul c d
 unfold Vb;omega
def vg{a b:Int}(c:aL a=true):aL (a.tdiv b)=true:=by
 rw[bm]at c |-
 have:(a.tdiv b).natAbs<=a.natAbs:=by
  rw[Int.natAbs_tdiv];exact T3 _ _
 omega
def Fy{a b:Int}(c:aL a=true):aL (a.tmod b)=true:=by
 rw[bm]at c |-
 have:(a.tmod b).natAbs<=a.natAbs:=by
  rw[Int.natAbs_tmod];exact Nat.mod_le _ _
 omega
def yi(k:Int){a b:Int}(d:aL a=true)(f:aL b=true):Vb (nr k a b).1/\((nr k a b).2=true->aL (nr k a b).1=true):=by
 have e: ∀ {n:Int},aL n=true->Vb n:=fun h=>by rw[bm]at h;unfold Vb;omega
 have c: ∀ {n:Int}{b:Bool},aL n=true->Vb (n,b).1/\((n,b).2=true->aL (n,b).1=true):=fun h=>⟨e h,fun _=>h⟩;unfold nr;split
 ·exact⟨Lp d f,id⟩
 split
 ·split
  ·exact c rfl
  exact c (vg d)
 split
 ·split
  ·exact c rfl
  exact c (Fy d)
 have g:=bm.1 d;have i:=bm.1 f;split
 ·exact⟨by unfold Vb;simp only;omega,id⟩
 split
 ·exact⟨by unfold Vb;simp only;omega,id⟩
 split
 ·exact c (gK _)
 split
 ·exact c (gK _)
 exact c (gK _)
structure u0.Ok(w:u0):Prop where
 vars: ∀x∈w.vars,aL x=true
 data:aL w.data=true
def pj{w:u0}(a:w.Ok){o:mw}{vs ss:Int}(h:nk o vs ss=true):aL (m9 w o)=true:=by
 unfold m9;split
 ·rename_i b;unfold nk at h;rw[OL b,OR]at h;rw[bm];omega
 split
 ·rw[Oe];cases e:w.vars[o.n.toNat]? with
  |none=>rfl
  |some x=>exact a.vars x (OM e)
 split
 ·exact gK _
 exact a.data
def E6(k:Int){a:Int}(b:aL a=true):aL (UG k a)=true:=by
 unfold UG;split
 ·exact gK _
 rw[bm]at b |-;omega
def ga{w:u0}(g:w.Ok){o:mw}{vs ss:Int}(h:nk o vs ss=true){s t:List Int}(d: ∀x∈s,aL x=true)(e:dx w o s=some t): ∀x∈t,aL x=true:=by
 unfold dx at e;split at e
 ·cases e;intro x c;rcases O7.1 c with rfl|c
  ·exact pj g h
  exact d x c
 split at e
 ·split at e
  ·cases e;intro x c;rcases O7.1 c with rfl|c
   ·exact E6 _ (d _ (by simp))
   exact d x (by simp[c])
  simp at e
 split at e
 ·split at e
  ·rename_i b a s f;cases e;intro x c;rcases O7.1 c with rfl|c
   ·exact(yi _ (d a (by simp)) (d b (by simp))).2 f
   exact d x (by simp[c])
  simp at e
 simp at e
def o4{vs ss:Int}{w:u0}(i:w.Ok): ∀(f:Nat)(a:List mw),a.length<=f->um vs ss a 0=some 1->Vb (bY w f a).1/\((bY w f a).2=true->aL (bY w f a).1=true)
 | 0,a,s,h=>by
   obtain rfl:a=[]:=QV.1 (by omega);simp[um]at h
 | f+1,a,s,h=>by
   have c: ∀ {n:Int},aL n=true->Vb n:=fun h=>by rw[bm]at h;unfold Vb;omega
   obtain⟨l,o,rfl,q,j⟩:=Bb h;have g:l.length<=f:=by simp at s;omega
   have b:nk o vs ss=true:=by simp only[bp,OJ]at q;exact q.2
   rcases Ez (jX q).1 with⟨e,d⟩|⟨e,d⟩|⟨e,d⟩|⟨e,d⟩
   ·rw[dO,OL d];exact⟨c (pj i b),fun _=>pj i b⟩
   ·rw[e]at j;rw[dO,OK (by omega),OL d];obtain⟨r,k⟩:=o4 i f l g j;refine⟨by unfold Vb at*;simp only;omega,fun h=> ?_⟩;have:=k h;rw[bm]at this |-;simp only;omega
   ·rw[dO,OK (by omega),OK (by omega),OL d];exact⟨c (gK _),fun _=>gK _⟩
   rw[e]at j;obtain⟨r,k,t⟩:=B5 j;rw[dO,OK (by omega),OK (by omega),OK (by omega)];generalize jt l l.length 1=p at*;split
   ·rename_i m;rw[OJ]at m;exact yi _ ((o4 i f _ (by rw[OZ];omega) r).2 m.1) ((o4 i f _ (by rw[QF];omega) k).2 m.2)
   exact⟨c rfl,fun _=>rfl⟩
def rG(w:u0)(a:List mw):Option Int:=if (bY w a.length a).2 then some (bY w a.length a).1 else none
def Bn{vs ss:Int}(w:u0){a:List mw}(h:um vs ss a 0=some 1):ml w a []=(rG w a).map fun n=>[n]:=by
 rw[lH vs ss w a.length a (OO _) h];unfold rG;split<;>rfl
def Hx{vs ss:Int}{w:u0}(c:w.Ok){a:List mw}(h:um vs ss a 0=some 1){n:Int}(e:rG w a=some n):aL n=true:=by
 unfold rG at e;split at e
 ·rename_i b;cases e;exact(o4 c a.length a (OO _) h).2 b
 simp at e
end Go.Proofs.YtfcdkaolcdglmaaGreatDoor
