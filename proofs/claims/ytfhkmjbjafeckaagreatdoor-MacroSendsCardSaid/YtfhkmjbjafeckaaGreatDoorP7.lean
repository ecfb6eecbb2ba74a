/- What expressions come to: on a stack, and as trees: the same. No program is named here. -/
import Derived.Test.YtfhkmjbjafeckaaGreatDoorP6
set_option linter.unusedSimpArgs false
set_option linter.defProp false
namespace Go.Proofs.YtfhkmjbjafeckaaGreatDoor
open Go.RowKit
structure r5 where
 vars:List Int
 data:Int
 act:List Bool
def Q'(b:Bool):Int:=if b then 1 else 0
def md(w:r5)(o:l5):Int:=if o.kind=1 then o.n else if o.kind=2 then w.vars.getD o.n.toNat 0 else if o.kind=4 then Q' (w.act.getD o.n.toNat false) else w.data
def Si(k a:Int):Int:=if k=6 then Q' (a==0) else 0-a
def I'(k a b:Int):Bool:=if k=12 then decide (a<b) else if k=13 then decide (b<a) else if k=14 then decide (a<=b) else if k=15 then decide (b<=a) else if k=16 then a==b else a != b
def kb(k a b:Int):Int×Bool:=
 if k=7 then(a*b,aL (a*b))
 else if k=8 then(if b=0 then(0,false) else(a.tdiv b,true))
 else if k=9 then(if b=0 then(0,false) else(a.tmod b,true))
 else if k=10 then(a+b,aL (a+b))
 else if k=11 then(a-b,aL (a-b))
 else if k=18 then(Q' (a != 0&&b != 0),true)
 else if k=19 then(Q' (a != 0||b != 0),true)
 else(Q' (I' k a b),true)
def eB(w:r5)(o:l5)(s:List Int):Option (List Int):=
 if o.kind<=4 then some (md w o::s)
 else if o.kind<=6 then(match s with
  |a::s=>some (Si o.kind a::s)
  |[]=>none)
 else match s with
  |b::a::s=>if (kb o.kind a b).2 then some ((kb o.kind a b).1::s) else none
  |_=>none
def my(w:r5):List l5->List Int->Option (List Int)
 |[],s=>some s
 |o::l,s=>(eB w o s).bind (my w l)
def lH(w:r5): ∀(l m:List l5)(s:List Int),my w (l++m) s=(my w l s).bind (my w m)
 |[],_,_=>rfl
 | o::l,m,s=>by
   simp only[Rw,my];cases eB w o s with
   |none=>rfl
   |some t=>exact lH w l m t
def o9(w:r5)(o:l5)(s:List Int):my w [o] s=eB w o s:=by
 simp only[my];cases eB w o s<;>rfl
def go(l:List l5):Nat->Int->Nat
 |0,_=>0
 | i+1,a=>match l[i]? with
   |some o=>if a-1+aF o.kind=0 then i else go l i (a-1+aF o.kind)
   |none=>0
def xB(l:List l5): ∀(i:Nat)(n:Int),go l i n<=i
 |0,_=>NC 0
 | i+1,n=>by
   unfold go;split
   ·split
    ·omega
    have:=xB l i (n-1+aF ‹l5›.kind);omega
   omega
def nO(l m:List l5): ∀(i:Nat)(n:Int),i<=l.length->go (l++m) i n=go l i n
 |0,_,_=>rfl
 | i+1,n,h=>by
   unfold go;rw[Nb (by omega)];cases l[i]? with
   |none=>rfl
   |some o=>simp only[nO l m i _ (by omega)]
def g5(w:r5):Nat->List l5->Int×Bool
 |0,_=>(0,false)
 | f+1,a=>match a[a.length-1]? with
   |none=>(0,false)
   | some o=>
     if o.kind<=4 then(md w o,true)
     else if o.kind=5 then(0-(g5 w f (a.take (a.length-1))).1,(g5 w f (a.take (a.length-1))).2)
     else if o.kind=6 then(Q' ((g5 w f (a.take (a.length-1))).1==0),(g5 w f (a.take (a.length-1))).2)
     else if (g5 w f (a.take (go a (a.length-1) 1))).2&&(g5 w f ((a.take (a.length-1)).drop (go a (a.length-1) 1))).2 then
      kb o.kind (g5 w f (a.take (go a (a.length-1) 1))).1 (g5 w f ((a.take (a.length-1)).drop (go a (a.length-1) 1))).1
     else(0,false)
def zB(vs ss:Int): ∀(l m:List l5)(n:Int),sm vs ss (l++m) n=(sm vs ss l n).bind (sm vs ss m)
 |[],_,_=>rfl
 | o::l,m,n=>by
   simp only[Rw,sm];split
   ·exact zB vs ss l m _
   rfl
def j3{vs ss n:Int}{o:l5}(h:cG vs ss n o=true):0<=aF o.kind/\aF o.kind<=n:=by
 simp only[cG,Mu,NF]at h;exact⟨h.1.1,h.1.2⟩
def FW{vs ss:Int} : ∀ {l:List l5}{n k:Int},sm vs ss l n=some k->0<=n->0<=k/\(l≠[]->1<=k)
 | [],n,k,h,a=>by
   simp only[sm,Ms]at h;exact⟨by omega,fun h=>absurd rfl h⟩
 | o::l,n,k,h,a=>by
   simp only[sm]at h;split at h
   ·rename_i b
    have c:aF o.kind<=n:=by
     have:=j3 b;exact this.2
    cases l with
    | nil=>
      simp only[sm,Ms]at h;exact⟨by omega,fun _=>by omega⟩
    | cons p l=>
      have:=FW h (by omega);exact⟨this.1,fun _=>this.2 (by simp)⟩
   simp at h
def wQ{vs ss n m:Int}{o:l5}(h:cG vs ss n o=true)(a:aF o.kind<=m):cG vs ss m o=true:=by
 simp only[cG,Mu,NF]at h |-;exact⟨⟨h.1.1,a⟩,h.2⟩
def Bn{vs ss:Int}{l:List l5}{m:Int}(r:0<=m): ∀(i:Nat)(h:Int),i<=l.length->sm vs ss (l.take i) 0=some h->m+1<=h->sm vs ss (l.drop i) (h-m)=some 1->
 sm vs ss (l.take (go l i (h-m))) 0=some m/\sm vs ss (l.drop (go l i (h-m))) 0=some 1/\go l i (h-m)<l.length
 | 0,h,_,e,q,_=>by
   simp only[List.take_zero,sm,Ms]at e;omega
 | i+1,h,s,e,q,g=>by
   obtain⟨o,b,_⟩:=aS (show i<l.length by omega);have p:l.take (i+1)=l.take i++[o]:=by rw[N1,b];rfl
   have k:l.drop i=o::l.drop (i+1):=by
    rw[Om (by omega)]
    congr 1
    rw[Mq (by omega)]at b;exact OV b
   rw[p,zB]at e;obtain⟨c,f,a⟩:=Option.bind_eq_some_iff.1 e;simp only[sm]at a;split at a
   ·rename_i d;have t:=j3 d;simp only[Ms]at a;unfold go;rw[b];simp only;have n:h-m-1+aF o.kind=c-m:=by omega
    rw[n];by_cases j:c-m=0
    ·rw[Mw j];refine⟨by rw[f];congr 1;omega,?_,by omega⟩;rw[k];simp only[sm];rw[Mw (wQ d (by omega))];rw[<-g]
     congr 1
     omega
    rw[Mt j];refine Bn r i c (by omega) f (by omega) ?_;rw[k];simp only[sm];rw[Mw (wQ d (by omega)), <-g]
    congr 1
    omega
   simp at a
def uu{vs ss:Int}{a:List l5}(h:sm vs ss a 0=some 1): ∃l o,a=l++[o]/\cG vs ss (aF o.kind) o=true/\sm vs ss l 0=some (aF o.kind):=by
 rcases List.eq_nil_or_concat a with rfl|⟨l,o,rfl⟩
 ·simp[sm]at h
 refine⟨l,o,by simp,?_⟩;rw[List.concat_eq_append,zB]at h;obtain⟨d,c,b⟩:=Option.bind_eq_some_iff.1 h;simp only[sm]at b;split at b
 ·rename_i e;simp only[Ms]at b;have:d=aF o.kind:=by omega
  subst this;exact⟨e,c⟩
 simp at b
def LG{vs ss:Int}{l:List l5}(h:sm vs ss l 0=some 0):l=[]:=by
 cases l with
 |nil=>rfl
 |cons o l=>have:=(FW h (RX 0)).2 (by simp);omega
def Kz(l:List l5)(o:l5):(l++[o])[(l++[o]).length-1]? =some o:=by simp
def HY(l:List l5)(o:l5):(l++[o]).take ((l++[o]).length-1)=l:=by simp
def FQ{k:Int}(h:0<=aF k):(aF k=0/\k<=4)\/(aF k=1/\k=5)\/(aF k=1/\k=6)\/(aF k=2/\7<=k):=by
 unfold aF at h |-;split
 ·exact .inl ⟨rfl,by omega⟩
 split
 ·rename_i a h2;rcases h2 with h2|h2
  ·exact .inr (.inl ⟨rfl,h2⟩)
  exact .inr (.inr (.inl ⟨rfl,h2⟩))
 split
 ·exact .inr (.inr (.inr ⟨rfl,by omega⟩))
 rename_i a h2 b;rw[Mt a,Mt h2,Mt b]at h;omega
def uh{vs ss:Int}{l:List l5}(h:sm vs ss l 0=some 2):sm vs ss (l.take (go l l.length 1)) 0=some 1/\sm vs ss (l.drop (go l l.length 1)) 0=some 1/\go l l.length 1<l.length:=by
 have:=Bn (vs:=vs) (ss:=ss) (l:=l) (m:=1) (by omega) l.length 2 (NC _) (by rw[NR,h]) (by omega) (by rw[ON];rfl);simpa using this
def cm(w:r5)(f:Nat)(l:List l5)(o:l5):g5 w (f+1) (l++[o])=if o.kind<=4 then(md w o,true)
 else if o.kind=5 then(0-(g5 w f l).1,(g5 w f l).2)
 else if o.kind=6 then(Q' ((g5 w f l).1==0),(g5 w f l).2)
 else if (g5 w f (l.take (go l l.length 1))).2&&(g5 w f (l.drop (go l l.length 1))).2 then
  kb o.kind (g5 w f (l.take (go l l.length 1))).1 (g5 w f (l.drop (go l l.length 1))).1
 else(0,false):=by
 have a:go (l++[o]) ((l++[o]).length-1) 1=go l l.length 1:=by
  rw[show (l++[o]).length-1=l.length by simp];exact nO l [o] _ _ (NC _)
 conv=>lhs;unfold g5
 rw[Kz,HY,a,Oh (xB l l.length 1)]
def lD(vs ss:Int)(w:r5): ∀(f:Nat)(a:List l5),a.length<=f->sm vs ss a 0=some 1-> ∀s,my w a s=if (g5 w f a).2 then some ((g5 w f a).1::s) else none
 | 0,a,i,h,s=>by
   obtain rfl:a=[]:=OZ.1 (by omega);simp[sm]at h
 | f+1,a,i,h,s=>by
   obtain⟨l,o,rfl,n,d⟩:=uu h;have g:l.length<=f:=by simp at i;omega
   rw[lH];rcases FQ (j3 n).1 with⟨e,c⟩|⟨e,c⟩|⟨e,c⟩|⟨e,c⟩
   ·rw[e]at d;obtain rfl:=LG d;have b:g5 w (f+1) ([]++[o])=(md w o,true):=by rw[cm,Mw c]
    rw[b];simp only[my,OD,eB,Mw c,Nt]
   ·rw[e]at d;have b:g5 w (f+1) (l++[o])=(0-(g5 w f l).1,(g5 w f l).2):=by rw[cm,Mt (by omega),Mw c]
    rw[b,lD vs ss w f l g d s];cases (g5 w f l).2 with
    |false=>rfl
    | true=>
      simp only[Nt,OD,o9,eB];rw[Mt (by omega),Mw (by omega)];simp only[Si];rw[Mt (by omega)]
   ·rw[e]at d;have b:g5 w (f+1) (l++[o])=(Q' ((g5 w f l).1==0),(g5 w f l).2):=by rw[cm,Mt (by omega),Mt (by omega),Mw c]
    rw[b,lD vs ss w f l g d s];cases (g5 w f l).2 with
    |false=>rfl
    | true=>
      simp only[Nt,OD,o9,eB];rw[Mt (by omega),Mw (by omega)];simp only[Si];rw[Mw c]
   ·rw[e]at d;obtain⟨k,m,t⟩:=uh d;have b:=cm w f l o;rw[Mt (by omega),Mt (by omega),Mt (by omega)]at b;rw[b];generalize go l l.length 1=p at*;have q:=lD vs ss w f (l.take p) (by rw[NJ];omega) k;have r:=lD vs ss w f (l.drop p) (by rw[Oa];omega) m
    have j:my w l s=(my w (l.take p) s).bind (my w (l.drop p)):=by
     rw[<-lH,PU]
    rw[j,q s];cases (g5 w f (l.take p)).2 with
    |false=>rfl
    | true=>
      simp only[Nt,OD,Nj];rw[r];cases (g5 w f (l.drop p)).2 with
      |false=>rfl
      | true=>
        simp only[Nt,OD,o9,eB];rw[Mt (by omega),Mt (by omega)]
/-! How large values are. -/
def cE{n:Int} :aL n=true↔ -2147483647<=n/\n<=2147483647:=by
 unfold aL;rw[Mu,NF,NF]
def S3(n:Int):Prop:= -4611686014132420609<=n/\n<=4611686014132420609
def gX(b:Bool):aL (Q' b)=true:=by cases b<;>rfl
def FI{a b:Int}(e:aL a=true)(f:aL b=true):S3 (a*b):=by
 rw[cE]at e f;have c:a.natAbs<=2147483647:=by omega
 have d:b.natAbs<=2147483647:=by omega
 have g:(a*b).natAbs<=2147483647*2147483647:=by
  rw[Int.natAbs_mul];exact Nat.mul_le_mul c d
 unfold S3;omega
def lY{a b:Int}(c:aL a=true):aL (a.tdiv b)=true:=by
 rw[cE]at c |-
 have:(a.tdiv b).natAbs<=a.natAbs:=by
  rw[Int.natAbs_tdiv];exact Nat.div_le_self _ _
 omega
def wO{a b:Int}(c:aL a=true):aL (a.tmod b)=true:=by
 rw[cE]at c |-
 have:(a.tmod b).natAbs<=a.natAbs:=by
  rw[Int.natAbs_tmod];exact Nat.mod_le _ _
 omega
def uK(k:Int){a b:Int}(d:aL a=true)(f:aL b=true):S3 (kb k a b).1/\((kb k a b).2=true->aL (kb k a b).1=true):=by
 have e: ∀ {n:Int},aL n=true->S3 n:=fun h=>by rw[cE]at h;unfold S3;omega
 have c: ∀ {n:Int}{b:Bool},aL n=true->S3 (n,b).1/\((n,b).2=true->aL (n,b).1=true):=fun h=>⟨e h,fun _=>h⟩;unfold kb;split
 ·exact⟨FI d f,id⟩
 split
 ·split
  ·exact c rfl
  exact c (lY d)
 split
 ·split
  ·exact c rfl
  exact c (wO d)
 have g:=cE.1 d;have i:=cE.1 f;split
 ·exact⟨by unfold S3;simp only;omega,id⟩
 split
 ·exact⟨by unfold S3;simp only;omega,id⟩
 split
 ·exact c (gX _)
 split
 ·exact c (gX _)
 exact c (gX _)
structure r5.Ok(w:r5):Prop where
 vars: ∀x∈w.vars,aL x=true
 data:aL w.data=true
def pw{w:r5}(a:w.Ok){o:l5}{vs ss:Int}(h:nG o vs ss=true):aL (md w o)=true:=by
 unfold md;split
 ·rename_i b;unfold nG at h;rw[Mw b,NF]at h;rw[cE];omega
 split
 ·rw[NW];cases e:w.vars[o.n.toNat]? with
  |none=>rfl
  |some x=>exact a.vars x (Mv e)
 split
 ·exact gX _
 exact a.data
def Er(k:Int){a:Int}(b:aL a=true):aL (Si k a)=true:=by
 unfold Si;split
 ·exact gX _
 rw[cE]at b |-;omega
def iA{w:r5}(g:w.Ok){o:l5}{vs ss:Int}(h:nG o vs ss=true){s t:List Int}(d: ∀x∈s,aL x=true)(e:eB w o s=some t): ∀x∈t,aL x=true:=by
 unfold eB at e;split at e
 ·cases e;intro x c;rcases NV.1 c with rfl|c
  ·exact pw g h
  exact d x c
 split at e
 ·split at e
  ·cases e;intro x c;rcases NV.1 c with rfl|c
   ·exact Er _ (d _ (by simp))
   exact d x (by simp[c])
  simp at e
 split at e
 ·split at e
  ·rename_i b a s f;cases e;intro x c;rcases NV.1 c with rfl|c
   ·exact(uK _ (d a (by simp)) (d b (by simp))).2 f
   exact d x (by simp[c])
  simp at e
 simp at e
def ia{vs ss:Int}{w:r5}(i:w.Ok): ∀(f:Nat)(a:List l5),a.length<=f->sm vs ss a 0=some 1->S3 (g5 w f a).1/\((g5 w f a).2=true->aL (g5 w f a).1=true)
 | 0,a,s,h=>by
   obtain rfl:a=[]:=OZ.1 (by omega);simp[sm]at h
 | f+1,a,s,h=>by
   have c: ∀ {n:Int},aL n=true->S3 n:=fun h=>by rw[cE]at h;unfold S3;omega
   obtain⟨l,o,rfl,q,j⟩:=uu h;have g:l.length<=f:=by simp at s;omega
   have b:nG o vs ss=true:=by simp only[cG,Mu]at q;exact q.2
   rcases FQ (j3 q).1 with⟨e,d⟩|⟨e,d⟩|⟨e,d⟩|⟨e,d⟩
   ·rw[cm,Mw d];exact⟨c (pw i b),fun _=>pw i b⟩
   ·rw[e]at j;rw[cm,Mt (by omega),Mw d];obtain⟨r,k⟩:=ia i f l g j;refine⟨by unfold S3 at*;simp only;omega,fun h=> ?_⟩;have:=k h;rw[cE]at this |-;simp only;omega
   ·rw[cm,Mt (by omega),Mt (by omega),Mw d];exact⟨c (gX _),fun _=>gX _⟩
   rw[e]at j;obtain⟨r,k,t⟩:=uh j;rw[cm,Mt (by omega),Mt (by omega),Mt (by omega)];generalize go l l.length 1=p at*;split
   ·rename_i m;rw[Mu]at m;exact uK _ ((ia i f _ (by rw[NJ];omega) r).2 m.1) ((ia i f _ (by rw[Oa];omega) k).2 m.2)
   exact⟨c rfl,fun _=>rfl⟩
def k8(w:r5)(a:List l5):Option Int:=if (g5 w a.length a).2 then some (g5 w a.length a).1 else none
def CI{vs ss:Int}(w:r5){a:List l5}(h:sm vs ss a 0=some 1):my w a []=(k8 w a).map fun n=>[n]:=by
 rw[lD vs ss w a.length a (NC _) h];unfold k8;split<;>rfl
def Hp{vs ss:Int}{w:r5}(c:w.Ok){a:List l5}(h:sm vs ss a 0=some 1){n:Int}(e:k8 w a=some n):aL n=true:=by
 unfold k8 at e;split at e
 ·rename_i b;cases e;exact(ia c a.length a (NC _) h).2 b
 simp at e
end Go.Proofs.YtfhkmjbjafeckaaGreatDoor
