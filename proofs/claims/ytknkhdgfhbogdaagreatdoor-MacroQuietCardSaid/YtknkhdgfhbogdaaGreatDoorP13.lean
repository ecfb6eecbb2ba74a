/- Flags of active states, how many are active, plain; slices.Sort of ints. -/
import Derived.Test.YtknkhdgfhbogdaaGreatDoorP12
import Derived.Shelf.Slices.In.SortNone
set_option maxRecDepth 100000
set_option maxHeartbeats 4000000
set_option linter.unusedSimpArgs false
set_option linter.defProp false
namespace Go.Proofs.YtknkhdgfhbogdaaGreatDoor
open Go.Proofs.Tryz
section
open Go.RowKit
def ix(m:Nat):List AV:=[.lit (.int .u32 m)]
def To:=@ix.eq_1
def ln(c:aq)(i:Nat):List Nat:=(List.range c.Z9.length).map fun j=>if j<i then n5 c j else 0
def C5(c:aq)(i:Nat)(s:na):Bool:=s.kind != 4&&s.kind != 5&&(((av c i true).length:Int)==0)
def cu(c:aq):Nat->Nat
 |0=>0
 | i+1=>match c.Z9[i]? with
   |some s=>if C5 c i s then cu c i||| 2^i else cu c i
   |none=>cu c i
def vk(c:aq):(ln c 0).map ix=List.replicate c.Z9.length [.lit (.int .u32 0)]:=by
 unfold ln;rw[OE]
 have: ∀n:Nat,(List.range n).map (ix ∘ fun(j:Nat)=>if j<0 then n5 c j else 0)=List.replicate n [.lit (.int .u32 0)]:=fun n=>by
  rw[List.eq_replicate_iff];refine⟨by simp,fun b a=> ?_⟩;obtain⟨j,_,rfl⟩:=Lp.1 a;rfl
 exact this _
def kF{c:aq}{i j:Nat}(a:j<c.Z9.length):(ln c i)[j]? =some (if j<i then n5 c j else 0):=by
 unfold ln;rw[Lo,NN a];rfl
def dZ(c:aq)(i:Nat):(ln c i).length=c.Z9.length:=by simp[ln]
def A7{c:aq}{i:Nat}(hi:i<c.Z9.length):(ln c i).set i (n5 c i)=ln c (i+1):=by
 apply Md;intro k;by_cases b:k<c.Z9.length
 ·rw[kF b,NF,dZ];by_cases e:i=k
  ·subst e;simp[hi]
  rw[Lf e,kF b];by_cases a:k<i
  ·rw[Lj a,Lj (by omega)]
  rw[Lf a,Lf (by omega)]
 rw[Lu (by rw[Nh,dZ];omega),Lu (by rw[dZ];omega)]
def Fp{c:aq}{i:Nat}(hi:i<c.Z9.length)(a:n5 c i=0):ln c i=ln c (i+1):=by
 rw[<-A7 hi,a];apply Md;intro k;rw[NF,dZ];by_cases e:i=k
 ·subst e;rw[kF hi];simp[hi]
 rw[Lf e]
def yW{a b:Nat}(c:a<4294967296)(d:b<4294967296):tF .or .u32 (a:Int) (b:Int)=((a||| b:Nat):Int):=by
 have e:a||| b<2^32:=QK (by omega) (by omega);show IntKind.u32.wrap ((BitVec.ofInt 32 (a:Int)||| BitVec.ofInt 32 (b:Int)).toNat:Int)=_;rw[BitVec.toNat_or,ofInt_u32 a c,ofInt_u32 b d,PK];omega
def rU{p:Nat}(b:p<32):IntKind.u32.wrap (1*2^min p 32)=((2^p:Nat):Int):=by
 have h:=jE p b;have a: ∀q:Nat,q<4294967296->(q:Int)%4294967296=q:=fun q h=>by omega
 rw[show min p 32=p by omega,PK,Int.one_mul,show ((2:Int)^p)=((2^p:Nat):Int) by rw[Pu];rfl];exact a _ h
def nL{c:aq} : ∀ {i:Nat},i<=32->cu c i<4294967296
 |0,_=>by show 0<4294967296;decide
 | i+1,h=>by
   have a:=nL (c:=c) (i:=i) (by omega);have b:=jE i (by omega);unfold cu;split
   ·split
    ·exact QK (n:=32) a b
    exact a
   exact a
/-! What is beneath -/
def yJ(m:Nat):List Nat:=(List.range 32).filter fun(b:Nat)=>m/2^b%2==1
def rV(m:Nat):ra m=(yJ m).map fun(b:Nat)=>(b:Int):=rfl
def Eb(m b:Nat):(m/2^b%2==1)=m.testBit b:=by
 rw[Nat.testBit_eq_decide_div_mod_eq];rfl
def uT{m b:Nat} :b∈yJ m↔b<32/\m.testBit b=true:=by
 unfold yJ;rw[Lq,MK,Eb]
def Cz(m:Nat):(yJ m).Nodup:=QF My List.nodup_range
def Nd(c:aq):Nat->Nat->Nat
 |0,_=>0
 |i+1,j=>if (n5 c i).testBit j then Nd c i j||| 2^i else Nd c i j
def tJ{c:aq} : ∀ {i:Nat}(j:Nat),i<=32->Nd c i j<4294967296
 |0,_,_=>by show 0<4294967296;decide
 | i+1,j,h=>by
   have a:=tJ (c:=c) (i:=i) j (by omega);have b:=jE i (by omega);unfold Nd;split
   ·exact QK (n:=32) a b
   exact a
def wm(c:aq)(i:Nat):List Nat:=(List.range c.Z9.length).map (Nd c i)
def l6(c:aq)(i m:Nat):List Nat:=(List.range c.Z9.length).map fun(j:Nat)=>if j∈(yJ (n5 c i)).take m then Nd c i j||| 2^i else Nd c i j
def lZ(c:aq)(i m:Nat):(l6 c i m).length=c.Z9.length:=by simp[l6]
def Cy(c:aq)(i:Nat):l6 c i 0=wm c i:=by
 unfold l6 wm;apply NO;intro j _;simp
def Gj{c:aq}(h:c.Z9.length<=32)(i:Nat):l6 c i (yJ (n5 c i)).length=wm c (i+1):=by
 unfold l6 wm;apply NO;intro j b;have b:=MK.1 b;rw[MC];show _=if (n5 c i).testBit j then Nd c i j||| 2^i else Nd c i j
 by_cases a:(n5 c i).testBit j=true
 ·rw[Lj (uT.2 ⟨by omega,a⟩),Lj a]
 rw[Lf (fun d=>a (uT.1 d).2),Lf a]
def I8{c:aq}{i m k:Nat}(h:(yJ (n5 c i))[m]? =some k)(l:k<c.Z9.length):(l6 c i m)[k]? =some (Nd c i k):=by
 unfold l6;rw[Lo,NN l];simp only[MG,Le];rw[Lf];intro j;obtain⟨q,a⟩:=NL.1 j;rw[MV]at a;split at a
 ·rename_i b;obtain⟨d,e⟩:=Ld.1 h;obtain⟨f,g⟩:=Ld.1 a;exact(M6.1 (Cz (n5 c i))) q m f d b (g.trans e.symm)
 cases a
def Gi{c:aq}{i m k:Nat}(b:(yJ (n5 c i))[m]? =some k)(d:k<c.Z9.length):(l6 c i m).set k (Nd c i k||| 2^i)=l6 c i (m+1):=by
 apply Md;intro j;rw[NF,lZ];by_cases a:j<c.Z9.length
 ·unfold l6;rw[Lo,NN a,Lo,NN a,MM,b];simp only[MG,PZ,ML,MA];by_cases e:k=j
  ·subst e;simp[d]
  rw[Lf e];simp[N5 e]
 rw[Lu (by rw[lZ];omega),Lu (by rw[lZ];omega)];by_cases e:k=j
 ·omega
 rw[Lf e]
def Gh(c:aq):(wm c 0).map ix=List.replicate c.Z9.length [.lit (.int .u32 0)]:=by
 rw[<-vk];unfold wm ln
 congr 1
def DC{c:aq}(h:Right c){i m k:Nat}(a:(yJ (n5 c i))[m]? =some k):k<i:=by
 have:=(uT.1 (Lh a)).2;rw[sC h,Lt]at this;have:=jp h 40 _ _ this;omega
def tW{c:aq}(h:Right c):(gc c (-1)).length<=c.Z9.length:=by
 have:=(jm h 40 (-1) (by omega) (by have:=h.Z6;omega)).length_le_of_subset (l₂:=List.range c.Z9.length) fun m a=>MK.2 ((gJ h m).1 a);simpa using this
def yU(c:aq):List Nat:=mu (gc c (-1)) 0 (List.replicate c.Z9.length 0)
def aQ(c:aq):AV:= .ref 7 [[.seq 1 (c.Z9.map fun s=>[I s.parent]), .seq 1 (c.Z9.map fun s=>[I s.kind]), .seq 1 ((ln c c.Z9.length).map ix), .seq 1 ((wm c c.Z9.length).map ix), .seq 1 ((yU c).map aB), .seq 1 ((gc c (-1)).map aB), .lit (.int .u32 (cu c c.Z9.length))]] 0 0
def Tl:=@aQ.eq_1
def HT(env:b6)(Z a8:Addr)(he:fq env Z a8)(hT: ∀W,env.inv W->wg W)(c:aq)(z:Right c)(hch:qZ Z a8 c= .lit .nilIface)(hcf:j6 c):b7 prog env 28 [.agg (aA c)] (.tuple [aQ c, .lit .nilIface]):=by
 have O:=z.Z6;have f0:=CN env Z a8 he c hcf;rw[hch]at f0;refine xY func28 rfl call28 (by rw[ntmps28];simp) ?_;rw[ntmps28,results28];have F:=aA.eq_1;refine bz ?_;repeat refine ef f0 ?_
 refine bz ?_;repeat refine ef f0 ?_
 refine bz ?_;repeat refine ef f0 ?_
 have m0: ¬(c.Z9.length:Int)<0:=by omega
 have m1: ¬(16777216:Int)< (c.Z9.length:Int):=by omega
 have m2: ¬(281474976710656:Int)<4*(c.Z9.length:Int):=by omega
 have m3: ¬(281474976710656:Int)<8*(c.Z9.length:Int):=by omega
 have F:=g7 SR m0 m1 m2 m3;refine bz ?_;repeat refine ef f0 ?_
 refine bz ?_;repeat refine ef f0 ?_
 refine nC 28 9000 0 0 3 1 ?_;refine nC 28 9001 0 1 3 1 ?_
 refine aG (D:=Nat) (fun i d=>[(1, .loc 1 (d 1) 0 0),(6, .loc 6 (d 6) 0 0),(30,o' c.Z9),(31,I c.Z9.length),(32,I i)])
  (fun i d=>[(1,⟨5,[aA c],26,false⟩),(6,⟨1,[[.loc 28 (d 28) 0 0]],88,false⟩),(28,⟨7,[[.row 9000 (d 9000), .row 9001 (d 9001), .row 22 (d 22), .row 24 (d 24), .row 26 (d 26),ct, .lit (.int .u32 (cu c i))]],135,false⟩),
   (22,⟨1,(ln c i).map ix,133,true⟩),(24,⟨1,List.replicate c.Z9.length [.lit (.int .u32 0)],133,true⟩),(26,⟨1,List.replicate c.Z9.length [I 0],3,true⟩),
   (9000,⟨1,(c.Z9.take i).map fun s=>[I s.parent],3,true⟩),(9001,⟨1,(c.Z9.take i).map fun s=>[I s.kind],3,true⟩)])
  (fun i d e=>i<=c.Z9.length/\e 22=false/\e 24=false/\e 26=false/\e 28=false/\e 9000=false/\e 9001=false) (fun i=>c.Z9.length-i) 0 ?_ ?_ ?_ ?_
 ·refine⟨Lx _,?_,?_,?_,?_,?_,?_⟩<;>simp only[go_sem]
 ·exact qe
 ·have F:=ai SR cu.eq_1
  (simp only[go_sem,F])
  rw[vk]
 rintro i y esc ⟨hi,h,l,n,o,q,r⟩;by_cases g:i<c.Z9.length
 ·obtain⟨s,x,_⟩:=aS g;have u:=h9 g;have C:=aD g (by omega);have f1:=gk env c i (by omega);have hpar:=z.par i s x;have Y:cI (i+1) 8:=⟨by omega,by omega⟩;have A:(c.Z9.take i).length=i:=by rw[Lw];omega
  have Q:c.Z9.take (i+1)=c.Z9.take i++[s]:=by rw[MM,x];rfl
  have w:=kF (c:=c) (i:=i) g;rw[Lf (Nat.lt_irrefl i)]at w
  have hl:cu c (i+1)=if C5 c i s then cu c i||| 2^i else cu c i:=by
   show (match c.Z9[i]? with|some s=>if C5 c i s then cu c i||| 2^i else cu c i|none=>cu c i)=_;rw[x]
  have V:=yW (a:=cu c i) (b:=2^i) (nL (by omega)) (jE i (by omega));have X:=rU (p:=i) (by omega);by_cases B:0<=s.parent
  ·obtain⟨p,B⟩: ∃p:Nat,s.parent=p:=⟨s.parent.toNat,by omega⟩;have G:=kF (c:=c) (i:=i) (j:=p) (by omega);rw[Lj (by omega)]at G;have T:((p:Nat):Int)< (c.Z9.length:Int):=by omega
   have U:=rU (p:=p) (by omega)
   have hnx:n5 c i=n5 c p||| 2^p:=by
    have:=vo z (aV.2 g);rw[eA x,B]at this;rw[this,Lj (by omega),Mz]
   have M:=yW (a:=n5 c p) (b:=2^p) (mb z (by omega)) (jE p (by omega));rw[<-hnx]at M;have H:=A7 (c:=c) g;cases t:(s.kind != 4)<;>cases S:(s.kind != 5)<;>cases R:(((av c i true).length:Int)==0);all_goals have F:=dk SR SS u C V X x B Y A w<|dk @dZ To t S R h l n o q r<|hH T U M G
   all_goals (repeat refine ef f1 ?_)
   all_goals (refine⟨i+1,⟨g,?_,?_,?_,?_,?_,?_⟩,?_,?_,by omega⟩)
   all_goals (first|(show _=false;simp only[go_sem,h,l,n,o,q,r];done)|skip)
   all_goals have F:=dk SR SS u C V X x B Y A w<|dk @dZ To t S R h l n o q r<|pf T U M G hl C5.eq_1 Q @Ln.{0,0} @O7.{0,0}
   all_goals ((simp only[go_sem, <-H,F]))
  have B:s.parent= -1:=by omega
  have hm0:n5 c i=0:=by
   have:=vo z (aV.2 g);rw[eA x,B]at this;rw[this,Lf (by omega)]
  have H:=Fp g hm0;cases t:(s.kind != 4)<;>cases S:(s.kind != 5)<;>cases R:(((av c i true).length:Int)==0);all_goals have F:=dk SR SS u C V X x B Y A w<|pc @dZ To t S R h l n o q r
  all_goals (repeat refine ef f1 ?_)
  all_goals (refine⟨i+1,⟨g,?_,?_,?_,?_,?_,?_⟩,?_,?_,by omega⟩)
  all_goals (first|(show _=false;simp only[go_sem,h,l,n,o,q,r];done)|skip)
  all_goals have F:=dk SR SS u C V X x B Y A w<|dk @dZ To t S R h l n o q r<|g7 hl C5.eq_1 Q @Ln.{0,0} H
  all_goals ((simp only[go_sem,F]))
 obtain rfl:i=c.Z9.length:=by omega
 have u:=nl c.Z9.length;have P:c.Z9.take c.Z9.length=c.Z9:=MC;have F:=pf SR u h l n o q r P;repeat refine ef f0 ?_
 refine uW ?_;refine bz ?_;repeat refine ef f0 ?_
 refine mz ?_
 refine Gm (D:=Nat) (fun i d=>[(1, .loc 1 (d 1) 0 0),(6, .loc 6 (d 6) 0 0),(108, .row 22 (d 22)),(109,I c.Z9.length),(110,I i)])
  (fun i d=>[(1,⟨5,[aA c],26,false⟩),(6,⟨1,[[.loc 28 (d 28) 0 0]],88,false⟩),(28,⟨7,[[.row 9000 (d 9000), .row 9001 (d 9001), .row 22 (d 22), .row 24 (d 24), .row 26 (d 26),ct, .lit (.int .u32 (cu c c.Z9.length))]],135,false⟩),
   (22,⟨1,(ln c c.Z9.length).map ix,133,true⟩),(24,⟨1,(wm c i).map ix,133,true⟩),(26,⟨1,List.replicate c.Z9.length [I 0],3,true⟩),
   (9000,⟨1,c.Z9.map fun s=>[I s.parent],3,true⟩),(9001,⟨1,c.Z9.map fun s=>[I s.kind],3,true⟩)])
  (fun i d e=>i<=c.Z9.length/\e 22=false/\e 24=false/\e 26=false/\e 28=false/\e 9000=false/\e 9001=false) (fun i=>c.Z9.length-i) 0 ?_ ?_ ?_ ?_
 ·refine⟨Lx _,?_,?_,?_,?_,?_,?_⟩<;>simp only[go_sem,h,l,n,o,q,r]
 ·have F:=@dZ;exact qe
 ·have F:=ai SR P
  (simp only[go_sem,F])
  rw[Gh]
 try clear h l n o q r
 rintro i y esc ⟨hi,h,l,n,o,q,r⟩;by_cases g:i<c.Z9.length
 ·have u:=h9 g;have C:=aD g (by omega);have hm:=kF (c:=c) (i:=c.Z9.length) g;rw[Lj g]at hm;have F:=dk SR u C hm @dZ To h l n o q r;refine bz ?_;repeat refine ef f0 ?_
  refine bz ?_;repeat refine ef f0 ?_
  refine uW ?_;refine mz ?_;refine bz ?_;repeat refine ef f0 ?_
  refine bz ?_;repeat refine ef f0 ?_
  refine mz ?_
  refine DI (D:=Unit) (f:=58) (first:= #[.int .u32 (n5 c i)]) (ks:=(ra (n5 c i)).map (Value.int .i64))
   (fun m _ d=>[(1,⟨5,[aA c],26,false⟩),(6,⟨1,[[.loc 28 (d 28) 0 0]],88,false⟩),(9,⟨1,[[I i]],3,false⟩),(28,⟨7,[[.row 9000 (d 9000), .row 9001 (d 9001), .row 22 (d 22), .row 24 (d 24), .row 26 (d 26),ct, .lit (.int .u32 (cu c c.Z9.length))]],135,false⟩),
    (22,⟨1,(ln c c.Z9.length).map ix,133,true⟩),(24,⟨1,(l6 c i m).map ix,133,true⟩),(26,⟨1,List.replicate c.Z9.length [I 0],3,true⟩),
    (9000,⟨1,c.Z9.map fun s=>[I s.parent],3,true⟩),(9001,⟨1,c.Z9.map fun s=>[I s.kind],3,true⟩)])
   (fun m _ d e=>(d 1=y 1/\d 6=y 6/\d 22=y 22/\d 9=y 9+1)/\e 22=false/\e 24=false/\e 26=false/\e 28=false/\e 9000=false/\e 9001=false) ()
   (by simp only[go_sem,hm,ix]) (by decide) ((Cn (n5 c i) (mb z (by omega))).mono hT) ?_ ?_ ?_ ?_
  ·refine⟨⟨?_,?_,?_,?_⟩,?_,?_,?_,?_,?_,?_⟩<;>simp only[go_sem,h,l,n,o,q,r]
  ·(simp only[go_sem,F])
   rw[Cy]
  ·rintro m _ v d e -⟨⟨J,K,L,t⟩,h,l,n,o,q,r⟩ hk
   obtain⟨k,E,rfl⟩: ∃k,(yJ (n5 c i))[m]? =some k/\v= .int .i64 (k:Nat):=by
    rw[rV,OE,Lo]at hk;obtain⟨k,h1,h2⟩:=NA.1 hk;exact⟨k,h1,h2.symm⟩
   have hki:=DC z E;have T:((k:Nat):Int)< (c.Z9.length:Int):=by omega
   have hb:=I8 E (by omega);have x:=Gi E (by omega);have U:=rU (p:=i) (by omega);have M:=yW (a:=Nd c i k) (b:=2^i) (tJ k (by omega)) (jE i (by omega));have F:=dk SR J K L t T U M hb @lZ To<|ip h l n o q r;repeat refine st ?_
   refine⟨(),⟨⟨?_,?_,?_,?_⟩,?_,?_,?_,?_,?_,?_⟩,?_⟩;all_goals (first|(simp only[go_sem,J,K,L,t,h,l,n,o,q,r];done)|skip)
   have F:=lP SR J K L t @O7.{0,0} To
   (simp only[go_sem, <-x,F])
  rintro _ d e -⟨⟨J,K,L,t⟩,h,l,n,o,q,r⟩;have hks:(ra (n5 c i)).length=(yJ (n5 c i)).length:=by rw[rV,ME]
  have N:=Gj (c:=c) O i;refine yM ?_;have F:=lP SR J K L t u C;repeat refine st ?_
  refine⟨i+1,⟨g,?_,?_,?_,?_,?_,?_⟩,?_,?_,by omega⟩;all_goals (first|(show _=false;simp only[go_sem,h,l,n,o,q,r];done)|skip)
  ·have F:=g7 SR J K L t;exact qe
  have F:=lP SR J K L t hks N;exact qe
 obtain rfl:i=c.Z9.length:=by omega
 have u:=nl c.Z9.length;have F:=ns SR u h l n o q r;refine bz ?_;repeat refine st ?_
 refine bz ?_;repeat refine st ?_
 refine yM ?_;refine nC 28 9002 0 5 3 1 ?_;refine cT [(9000,⟨1,c.Z9.map fun s=>[I s.parent],3,true⟩),(9001,⟨1,c.Z9.map fun s=>[I s.kind],3,true⟩),(22,⟨1,(ln c c.Z9.length).map ix,133,true⟩),(24,⟨1,(wm c c.Z9.length).map ix,133,true⟩)] ?_ ?_
 ·exact qe
 refine lB [(1, .loc 1 (y 1) 0 0),(6, .loc 6 (y 6) 0 0)] [(1,⟨5,[aA c],26,false⟩),(6,⟨1,[[.loc 28 (y 28) 0 0]],88,false⟩),(28,⟨7,[[.seq 1 (c.Z9.map fun s=>[I s.parent]), .seq 1 (c.Z9.map fun s=>[I s.kind]), .seq 1 ((ln c c.Z9.length).map ix), .seq 1 ((wm c c.Z9.length).map ix), .row 26 (y 26), .row 9002 (y 9002+1), .lit (.int .u32 (cu c c.Z9.length))]],135,false⟩),
  (26,⟨1,List.replicate c.Z9.length [I 0],3,true⟩),(9002,⟨1,[],3,true⟩)] ?_ ?_ ?_
 ·exact Sp
 ·have F:=aA.eq_1;exact qe
 have hwl:=tW z
 have f1:yh prog env 59 c (c.Z9.map fun s=>[I s.parent]) (c.Z9.map fun s=>[I s.kind]) ((ln c c.Z9.length).map ix) ((wm c c.Z9.length).map ix) (.int .u32 (cu c c.Z9.length)) (-1) [] (List.replicate c.Z9.length 0):=
  zw env c z _ _ _ _ _ 40 (-1) [] (List.replicate c.Z9.length 0) (by omega) (by omega) (by simp) (by simp;omega)
 unfold yh at f1;have F:=la SR Ts SU @List.map_replicate.{0,0} h l n o q r;repeat refine st ?_
 refine iL [(1000,28),(1001,26),(1002,9002)] f1 ?_;repeat refine st ?_
 refine cT [(26,⟨1,(yU c).map aB,3,true⟩),(9002,⟨1,(gc c (-1)).map aB,3,true⟩)] ?_ ?_
 ·have F:=yU.eq_1;exact qe
 refine lB [(2, .loc 28 (y 28) 0 0),(3, .lit .nilIface)] [(28,⟨7,[[.seq 1 (c.Z9.map fun s=>[I s.parent]), .seq 1 (c.Z9.map fun s=>[I s.kind]), .seq 1 ((ln c c.Z9.length).map ix), .seq 1 ((wm c c.Z9.length).map ix), .seq 1 ((yU c).map aB), .seq 1 ((gc c (-1)).map aB), .lit (.int .u32 (cu c c.Z9.length))]],135,false⟩)] ?_ ?_ ?_
 ·exact Sp
 ·have F:=aA.eq_1;exact qe
 (refine aM ?_;refine⟨_,(by show (ag _ _ _).run _=some _;simp only[go_sem];rfl),?_⟩)
 exact fX.refl _
abbrev Sz(m:Nat):AV:= .lit (.int .u32 m)
def AA(env:b6)(c:aq):b7 prog env 114 [aQ c] (I c.Z9.length):=by
 refine qf func114 call114 ntmps114 results114 ?_;have F:=aQ.eq_1;exact dT
def rO(env:b6)(c:aq)(i:Int):b7 prog env 66 [aQ c,I i] (B (ed c i)):=by
 have f0:=AA env c;refine qf func66 call66 ntmps66 results66 ?_;unfold ed;by_cases a:0<=i
 ·by_cases b:i< (c.Z9.length:Int)
  ·have F:=ai a b;exact g9 f0
  have F:=ai a b;exact g9 f0
 have F:=a;exact g9 f0
def xe(env:b6)(c:aq)(g:Right c)(i:Int):b7 prog env 143 [aQ c,I i] (.own 3 1 ((i' c i).map fun k=>[I k])):=by
 have j:=g.Z6;refine qf func143 call143 ntmps143 results143 ?_;repeat refine m8 ?_
 refine am 5 5 3 1 ?_;have q:(i' c i).length<=40:=kJ 40 i;refine Si (D:=Int×List Int) (fun d r=>[(0,aQ c),(1,I d.1),(5, .row 5 (r 5))]) (fun d _=>[(5,⟨1,d.2.map fun k=>[I k],3,true⟩)]) (fun d _ e=>i' c i=d.2++i' c d.1/\e 5=false) (fun d=>(d.1+1).toNat) (i,[]) ⟨rfl,rfl⟩ ?_;rintro⟨d,l⟩ v e ⟨b,f⟩;simp only at b;have f0:=rO env c d;cases a:ed c d with
 | false=>
   rw[cW a,Mw]at b;rw[a]at f0;have F:=ai b f;exact g9 f0
 | true=>
   obtain⟨k,s,rfl,n,t⟩:=cO a;have m:=eA n;have h:=dV g a;rw[m]at h;rw[rL g a,m]at b;rw[a]at f0
   have u:l.length+1<=40:=by
    have:=MS List.length b;rw[Ll,MB]at this;omega
   have o:((k:Nat):Int)< (c.Z9.length:Int):=by have:=(aI.1 a).2;omega
   have p:cI (l.length+1) 8:=⟨by omega,by omega⟩;have F:=g7 Tl o n p f;repeat refine ef f0 ?_
   refine⟨(s.parent,l++[s.parent]),⟨?_,?_⟩,?_,?_,?_⟩
   ·show i' c i=(l++[s.parent])++i' c s.parent;rw[b,M4];rfl
   ·show _=false;simp only[go_sem,f]
   ·have F:=aQ.eq_1;exact qe
   ·have F:=ai Tl @Ln.{0,0};exact qe
   show (s.parent+1).toNat< ((k:Int)+1).toNat;omega
def AB(env:b6)(m:Nat)(d:m<4294967296)(k:Nat)(f:k<32):b7 prog env 115 [Sz m,I k] (B (m.testBit k)):=by
 have e:m/2^k<4294967296:=Nat.lt_of_le_of_lt (Nat.div_le_self ..) d
 have a:((m:Int)).fdiv (2^min k 32)=((m/2^k:Nat):Int):=by
  rw[show min k 32=k by omega,show ((2:Int)^k)=((2^k:Nat):Int) by rw[Pu];rfl];exact(Q4 _ _).symm
 have b:tF .and .u32 ((m/2^k:Nat):Int) 1=((m/2^k%2:Nat):Int):=by
  have:=u32_and (m/2^k) 1 e (by decide);rw[Nat.and_one_is_mod]at this;exact this
 have c:((((m/2^k%2:Nat):Int))==1)=m.testBit k:=by
  rw[<-Eb];rcases Nat.mod_two_eq_zero_or_one (m/2^k) with h|h<;>rw[h]<;>rfl
 refine qf func115 call115 ntmps115 results115 ?_;have F:=fI a b c;exact dT
def ny(m:Nat)(l:List Nat)(j:Nat):List Nat:=(l.take j).filter fun k=>m.testBit k
def F7{m:Nat}{l:List Nat}{j k:Nat}(h:l[j]? =some k):ny m l (j+1)=if m.testBit k then ny m l j++[k] else ny m l j:=by
 unfold ny;rw[MM,h,MR];cases a:m.testBit k<;>simp[a]
def H7(m:Nat)(l:List Nat)(j:Nat):(ny m l j).length<=l.length:=by
 unfold ny;exact Ly (MF ..) (by rw[Lw];omega)
def ym(env:b6)(c:aq)(o:Right c)(m:Nat)(s:m<4294967296):b7 prog env 67 [aQ c,Sz m] (.own 3 1 (((gc c (-1)).filter fun k=>m.testBit k).map aB)):=by
 have r:=o.Z6;have u:=tW o;have g:=gJ o;refine qf func67 call67 ntmps67 results67 ?_;have F:=aQ.eq_1;repeat refine st ?_
 generalize gc c (-1)=W at*;refine am 5 5 3 1 ?_;refine aG (D:=Nat) (fun j v=>[(1,Sz m),(5, .row 5 (v 5)),(13, .seq 1 (W.map aB)),(14,I W.length),(15,I j)]) (fun j _=>[(5,⟨1,(ny m W j).map aB,3,true⟩)]) (fun j _ d=>j<=W.length/\d 5=false) (fun j=>W.length-j) 0 ?_ ?_ ?_ ?_
 ·exact⟨Lx _,rfl⟩
 ·exact qe
 ·(simp only[go_sem,F])
  rfl
 rintro j x d ⟨w,b⟩;by_cases a:j<W.length
 ·obtain⟨k,l⟩:=gE a;have f:k<32:=by have:=(g k).1 (Lh l);omega
  have f0:=AB env m s k f;have h:=h9 a;have p:=aD a (by omega);have t:=H7 m W j;have q:cI ((ny m W j).length+1) 8:=⟨by omega,by omega⟩;have n:=F7 (m:=m) l;cases i:m.testBit k with
  | true=>
    rw[i]at f0;rw[i,Lj rfl]at n;have F:=ip h p l SU q b;repeat refine ef f0 ?_
    refine⟨j+1,⟨a,by simp only[go_sem,b]⟩,?_,?_,by omega⟩
    ·exact qe
    have F:=fI n SU @Ln.{0,0};exact qe
  | false=>
    rw[i]at f0;rw[i,Lf MW]at n;have F:=ip h p l SU q b;repeat refine ef f0 ?_
    refine⟨j+1,⟨a,by simp only[go_sem,b]⟩,?_,?_,by omega⟩
    ·exact qe
    have F:=fI n SU @Ln.{0,0};exact qe
 obtain rfl:j=W.length:=by omega
 have h:=nl W.length;have e:ny m W W.length=W.filter fun k=>m.testBit k:=by unfold ny;rw[MC]
 have F:=fI h e b;exact dT
def Dx(l:List Int)(j:Nat):Nat:=(l.take j).foldl (fun m k=>m||| 2^k.toNat) 0
def Fg{l:List Int}{j:Nat}{k:Int}(h:l[j]? =some k):Dx l (j+1)=Dx l j||| 2^k.toNat:=by
 unfold Dx;rw[MM,h,QJ];rfl
def uM: ∀(l:List Int)(m b:Nat),(l.foldl (fun m k=>m||| 2^k.toNat) m).testBit b=(m.testBit b||l.any fun k=>k.toNat==b)
 |[],m,b=>by simp
 | k::l,m,b=>by
   rw[Pt,uM l,P5,Oc,Ob,Bool.or_assoc];rfl
def rl{c:aq}(d:Right c){l:List Int} : ∀ {j:Nat},(∀k∈l.take j,ed c k=true)->Dx l j<4294967296:=fun {j} h=>by
 have a:=d.Z6;apply Nat.lt_pow_two_of_testBit (n:=32);intro b f;unfold Dx;rw[uM,Nat.zero_testBit,NY,Oy];intro k e;have:=aI.1 (h k e);simp;omega
def Fh{c:aq}{l:List Int}(h:l.all (ed c)=true):((gc c (-1)).filter fun k=>(Dx l l.length).testBit k)=bt c l:=by
 unfold bt;rw[Lj h];apply NR;intro k _;unfold Dx;rw[uM,Nat.zero_testBit,NY,MC,MP,Ml,Lk];constructor
 ·rintro⟨x,a,b⟩;have:=(aI.1 (Lm.1 h x a)).1;have b:x.toNat=k:=by simpa using b
  rw[show (k:Int)=x by omega];exact a
 exact fun a=>⟨k,a,by simp⟩
def AD{c:aq}{l:List Int}{j:Nat}{k:Int}(h:(l.take j).all (ed c)=true)(a:l[j]? =some k)(b:ed c k=true):(l.take (j+1)).all (ed c)=true:=by
 rw[MM,a,Oo,h];simp[b]
def AG{c:aq}{l:List Int}{j:Nat}{k:Int}(a:l[j]? =some k)(b:ed c k=false):bt c l=[]:=by
 unfold bt;rw[Lf];intro h;have:=Lm.1 h k (Lh a);rw[b]at this;cases this
abbrev aa(k:Int):List AV:=[I k]
def S3:=@aa.eq_1
def fY(env:b6)(c:aq)(i:Right c)(l:List Int)(t:l.length<=1000000):b7 prog env 33 [aQ c, .seq 1 (l.map aa)] (.own 3 1 ((bt c l).map aB)):=by
 have q:=i.Z6;refine qw func33 call33 ntmps33 results33 ?_;repeat refine m8 ?_
 refine aG (D:=Nat) (fun j _=>[(0,aQ c),(5,Sz (Dx l j)),(8, .seq 1 (l.map aa)),(9,I l.length),(10,I j)]) (fun _ _=>[]) (fun j _ _=>j<=l.length/\(l.take j).all (ed c)=true) (fun j=>l.length-j) 0 ?_ ?_ ?_ ?_
 ·exact⟨Lx _,rfl⟩
 ·(simp only[go_sem])
  rfl
 ·exact Sp
 rintro j v r ⟨s,a⟩;by_cases d:j<l.length
 ·obtain⟨k,b⟩:=gE d;have f:=h9 d;have h:=aD d (by omega);have f0:=rO env c k;cases g:ed c k with
  | false=>
    rw[g]at f0;have F:=fI f h b;repeat refine ef f0 ?_
    (refine aM ?_;refine⟨_,(by show (ag _ _ _).run _=some _;simp only[go_sem,F];rfl),?_⟩)
    rw[AG b g];exact fX.own_nil _ _ (by decide)
  | true=>
    rw[g]at f0;have u:=aI.1 g;obtain⟨p,rfl⟩: ∃p:Nat,k=p:=⟨k.toNat,by omega⟩;have m:=rU (p:=p) (by omega);have e:=rl i (j:=j) (fun k b=>Lm.1 a k b);have n:=yW e (jE p (by omega));have o:=Fg b;rw[Mz]at o;have F:=g7 f h m n b;repeat refine ef f0 ?_
    refine⟨j+1,⟨d,AD a b g⟩,?_,?_,by omega⟩
    ·have F:=ip f h m n b o;exact qe
    ·(simp only[go_sem,f,h,m,n,b,o])
 obtain rfl:j=l.length:=by omega
 have f:=nl l.length;have e:=rl i (j:=l.length) (fun k b=>Lm.1 a k b);rw[MC]at a;have f1:=ym env c i _ e;rw[Fh a]at f1;have F:=f;repeat refine ef f1 ?_
 (refine aM ?_;refine⟨_,(by show (ag _ _ _).run _=some _;simp only[go_sem,F];rfl),?_⟩)
 exact fX.refl _
end
section
open Go.RowKit Go.Sort Go.Shelf Go.Lib
def kb(n:Nat)(act:List Int):List (List AV):=(List.range n).map fun k:Nat=>[B (act.contains (k:Int))]
def eW(n:Nat)(act:List Int):(kb n act).length=n:=by unfold kb;simp
def kH{n:Nat}{act:List Int}{k:Nat}(a:k<n):(kb n act)[k]? =some [B (act.contains (k:Int))]:=by
 unfold kb;rw[Lo,NN a];rfl
def GX(n:Nat):List.replicate n [B false]=kb n []:=by
 unfold kb;apply Md;intro j;rw[Lo];by_cases h:j<n
 ·rw[NN h,List.getElem?_replicate_of_lt h];rfl
 rw[Lu (by simp;omega),Lu (by simp;omega)];rfl
def Ap{n:Nat}{act:List Int}{i:Int}(h: ∀k:Nat,k<n->(k:Int)≠i):kb n (act++[i])=kb n act:=by
 unfold kb;apply NO;intro k a;have:=h k (MK.1 a);simp;exact fun e=>absurd e this
def IG{n:Nat}{act:List Int}{k:Nat}(b:k<n):(kb n act).set k [B true]=kb n (act++[(k:Int)]):=by
 apply Md;intro j;by_cases a:j<n
 ·rw[kH a];by_cases e:k=j
  ·subst e;rw[Oj (by rw[eW];exact b)];simp
  rw[O3 e,kH a];simp;exact fun c=>absurd (by omega) e
 rw[Lu (by rw[Nh,eW];omega),Lu (by rw[eW];omega)]
def xr{act:List Int}{ks:List Nat}{j k:Nat}(a:ks[j]? =some k):bx act (ks.take (j+1))=bx act (ks.take j)+if act.contains (k:Int)=true then 1 else 0:=by
 unfold bx;rw[MM,a,MR,Ll];simp only[PZ,Na,QW];split<;>rfl
def b9(l:List Nat):(zL l).map aa=l.map aB:=by simp only[zL,OE];rfl
def ak(l:List Nat):(zL l).length=l.length:=ME ..
def qQ{l:List Nat}{j k:Nat}(h:l[j]? =some k):(zL l)[j]? =some (k:Int):=by unfold zL;rw[Lo,h];rfl
/-! slices.Sort of ints -/
def sP(k:Int):List Value:=[.int .i64 k]
def bQ(l:List Int):List Int:=l.mergeSort fun x y=>decide (x<=y)
def sR{w:World}{g:Nat}{l:List Int}(h:Holds id w g 0 (l.map (Value.int .i64)).toArray):Holds (Value.int .i64) w g 0 l.toArray:=fun j b=>by
 have a:j<l.length:=by simpa using b
 have:=h j (by simpa using a);rw[OQ _ j (by simpa using a)]at this;rw[OQ _ j b];simpa using this
def Tryz.sortIEnter: ∀(args:Array Value)(w:World),(callFunc 176 args).run prog w= .ok (.enter 176 args) w:=Px func176 (by kernel_rfl) rfl
def pk(l:List Int)(f:l.length<4611686018427387904):An prog 176 [] 3 1 (l.map sP) ((bQ l).map sP):=by
 by_cases d:l=[]
 ·subst d;rw[show bQ []=[] by simp[bQ]];exact mN Tryz.sortIEnter fun p a w=>Any.slices_Sort_int_none Tryz.sortI p a w
 refine jq (by rw[ME];exact NG.2 d) Tryz.sortIEnter (by simp[bQ]) (fun x c=> ?_) (fun x c=> ?_) fun w g a b e=> ?_
 ·obtain⟨y,_,rfl⟩:=Lp.1 c;rfl
 ·obtain⟨y,_,rfl⟩:=Lp.1 c;exact⟨rfl,fun u h=>by rw[MA.1 h];rfl⟩
 have b:Holds id w g 0 (l.map (Value.int .i64)).toArray:=by rw[<-d4];exact b
 have:=Any.slices_Sort_int Tryz.sortI g 0 a l w (sR b) e f;rw[ME];refine(show Calls prog 176 #[.slice (some ⟨g,0,none⟩) l.length a] w _ from this).mono ?_;rintro j k ⟨rfl,n,i,rfl⟩;refine⟨rfl,n,i,?_⟩;rw[jP,show ((bQ l).map sP).flatten=(bQ l).map (Value.int .i64) from d4 (Value.int .i64) _];simp[bQ]
end
end Go.Proofs.YtknkhdgfhbogdaaGreatDoor
