/- Memories, as the document checks them: the whole. -/
import Derived.Test.YtknkhdgfhbogdaaGreatDoorP20
set_option maxRecDepth 100000
set_option maxHeartbeats 16000000
set_option linter.unusedSimpArgs false
set_option linter.defProp false
namespace Go.Proofs.YtknkhdgfhbogdaaGreatDoor
open Go.Proofs.Tryz
open Go.RowKit
section
def sO(env:b6)(x:Int):b7 prog env 269 [I x] (B false):=by
 have a:(x==x)=true:=by simp
 refine qf func269 call269 ntmps269 results269 ?_;have F:=ai a jC;exact dT
def Fx(env:b6)(x y:Int):b7 prog env 252 [I x,I y] (B (decide (x<y))):=by
 have f0:=sO env x;have f1:=sO env y;by_cases h:x<y
 ·rw[M2 h];refine qf func252 call252 ntmps252 results252 ?_;have F:=h;exact m5 f0 f1
 rw[MU h];refine qf func252 call252 ntmps252 results252 ?_;have F:=h;exact m5 f0 f1
def yy{l:List Int}{n:Nat}(h: ∀j,n<=j->j<l.length->jG l j=true)(c:n<=1):jD l=true:=by
 unfold jD;rw[Lm];intro j a;have a:=MK.1 a;by_cases b:n<=j
 ·exact h j b a
 obtain rfl:j=0:=by omega
 rfl
def Bg{l:List Int}{j:Nat}(a:j<l.length)(h:jG l j=false):jD l=false:=by
 unfold jD;rw[Nu];exact⟨j,MK.2 a,by rw[h];simp⟩
def xT(env:b6)(l:List Int)(G:l.length<=9223372036854775807):b7 prog env 227 [.seq 1 (l.map aa)] (B (jD l)):=by
 have x:IntKind.i64.wrap ((l.length:Int)-1)=(l.length:Int)-1:=O0 _ (by omega);refine qf func227 call227 ntmps227 results227 ?_;have F:=x;repeat refine st ?_
 refine aG (D:=Nat) (fun j H=>[(0, .seq 1 (l.map aa)),(3,I ((l.length:Int)-1-(j:Int)))]) (fun _ _=>[]) (fun j _ _=>j<=l.length/\ ∀m,l.length-j<=m->m<l.length->jG l m=true) (fun j=>l.length-j) 0 ?_ ?_ ?_ ?_
 ·exact⟨Lx _,fun m c d=>absurd d (by omega)⟩
 ·have F:=Int.sub_zero
  (simp only[go_sem,F])
  try rfl
 ·(simp only[go_sem,Int.sub_zero])
  try rfl
 rintro j J t ⟨E,a⟩;by_cases e:0< (l.length:Int)-1-(j:Int)
 ·have v: ∃i:Nat,(l.length:Int)-1-(j:Int)=(i:Int)/\i+j+1=l.length:=⟨l.length-1-j,by omega,by omega⟩;obtain⟨i,s,y⟩:=v;have c:i<l.length:=by omega
  have d:i-1<l.length:=by omega
  have q:l[i]? =some (l.getD i 0):=by rw[MJ,Lc c];rfl
  have r:l[i-1]? =some (l.getD (i-1) 0):=by rw[MJ,Lc d];rfl
  have f:IntKind.i64.wrap ((i:Int)-1)=((i-1:Nat):Int):=by rw[O0 _ (by omega)];omega
  have k:(0:Int)< (i:Int):=by omega
  have o:(i:Int)< (l.length:Int):=by omega
  have p:((i-1:Nat):Int)< (l.length:Int):=by omega
  have h:jG l i=decide (¬l.getD i 0<l.getD (i-1) 0):=by
   unfold jG;rw[show (i==0)=false by simp;omega,NY]
  rw[s];generalize A:l.getD i 0=X at*;generalize C:l.getD (i-1) 0=Y at*;have f0:=Fx env X Y;by_cases b:X<Y
  ·rw[M2 b]at f0;rw[Bg c (by rw[h,MU (by simpa using b)])];have F:=ip k o p q r f;exact g9 f0
  rw[MU b]at f0;have g:(l.length:Int)-1-((j+1:Nat):Int)=((i-1:Nat):Int):=by omega
  have F:=ip k o p q r f;repeat refine ef f0 ?_
  refine⟨j+1,⟨by omega,fun m z u=> ?_⟩,?_,?_,by omega⟩
  ·by_cases w:m=i
   ·rw[w,h,M2 b]
   exact a m (by omega) u
  ·have F:=g;exact qe
  ·(simp only[go_sem,g])
 rw[yy (n:=l.length-j) a (by omega)];have F:=e;exact dT
def Ct(env:b6)(c:aq)(h:b8 c)(U:g6 c)(g:Int)(l:List Int)(T:l.length<=1000000)(P: ∀x∈l,ed c x=true):b7 prog env 231 [aH c,I g, .seq 1 (l.map aa)] (B (l.all (cZ c l))):=by
 have f0:=au env c U;unfold aH at f0 |-;refine qf func231 call231 ntmps231 results231 ?_;have F:=aA.eq_1;repeat refine ef f0 ?_
 have F:=aA.eq_1;refine lq l.length (by omega) (fun j C=>[(0, .ref 9 [ca c] 0 0),(2, .seq 1 (l.map aa)),(7, .loc 7 (C 7) 0 0),(16, .seq 1 (l.map aa)),(17,I l.length),(18,I j)]) (fun _ _=>[(7,⟨5,[aA c],26,false⟩)]) (fun j _ _=> ∀m (y:Int),m<j->l[m]? =some y->cZ c l y=true) (fun m y i=>absurd i (by omega)) ?_ ?_
 ·rintro j V E v L R b;obtain⟨x,J⟩:=gE v;have p:=Lh J;obtain⟨k,s,rfl,o,G⟩:=cO (P x p);have Y:=(Ld.1 o).1;have S:((k:Nat):Int)< (c.Z9.length:Int):=by omega
  have f1:=bc env c h k;rw[Lj (.inr (P _ p))]at f1;have u:cZ c l (k:Int)= !(((s.kind==1)&&decide (1<bx l (av c k true)))||((s.kind==4)||(s.kind==5))):=by unfold cZ;rw[G]
  have X:=bC h.toRight k true;have O:=h.Z6;unfold aH at f1;generalize av c (k:Int) true=K at*;have F:=fI J L R;repeat refine ef f1 ?_
  refine aG (D:=Nat) (fun m C=>[(0, .ref 9 [ca c] 0 0),(2, .seq 1 (l.map aa)),(7, .loc 7 (C 7) 0 0),(9,I k),(10,I (bx l (K.take m):Nat)),(16, .seq 1 (l.map aa)),(17,I l.length),(18,I j),(24, .row 24 (C 24)),(25,I K.length),(26,I m)]) (fun _ _=>[(7,⟨5,[aA c],26,false⟩),(24,⟨1,K.map aB,3,true⟩)]) (fun m _ _=>m<=K.length) (fun m=>K.length-m) 0 ?_ ?_ ?_ ?_
  ·exact Lx _
  ·(simp only[go_sem,F])
   try rfl
  ·have F:=aA.eq_1
   (simp only[go_sem,F])
   try rfl
  rintro m Z W i;by_cases d:m<K.length
  ·obtain⟨y,f⟩:=gE d;have z:=h9 d;have Q:=aD d (by omega);have f2:=bJ env l (y:Int) T;have a:=xr (act:=l) f;have H:=xt l (K.take m);rw[Lw]at H;have p3:=aD (show bx l (K.take m)<K.length by omega) (by omega);cases M:l.contains (y:Int) with
   | true=>
     rw[M]at f2 a;rw[Lj rfl]at a;have F:=g7 SU f z Q p3;repeat refine ef f2 ?_
     refine⟨m+1,d,?_,?_,by omega⟩
     ·have F:=a;exact qe
     have F:=aA.eq_1;exact qe
   | false=>
     rw[M]at f2 a;rw[Lf MW,OA]at a;have F:=hH SU f z Q;repeat refine ef f2 ?_
     refine⟨m+1,d,?_,?_,by omega⟩
     ·have F:=a;exact qe
     have F:=aA.eq_1;exact qe
  ·obtain rfl:m=K.length:=by omega
   have z:=nl K.length;rw[MC];generalize bx l K=N at*;cases A:cZ c l (k:Int) with
   | false=>
     rw[show l.all (cZ c l)=false from Nu.2 ⟨_,p,by rw[A];simp⟩];cases q:(s.kind==1)<;>cases r:(s.kind==4)<;>cases t:(s.kind==5)<;>by_cases w:(1:Int)< (N:Int)
     all_goals first
      |(exfalso;have n:(1<N)=((1:Int)< (N:Int)):=(by simp;omega);simp[u,q,r,t,n,w]at A;done)
      |skip
     all_goals
      have F:=pf SR SS o z S q r t w;exact dT
   | true=>
     cases q:(s.kind==1)<;>cases r:(s.kind==4)<;>cases t:(s.kind==5)<;>by_cases w:(1:Int)< (N:Int)
     all_goals first
      |(exfalso;have n:(1<N)=((1:Int)< (N:Int)):=(by simp;omega);simp[u,q,r,t,n,w]at A;done)
      |skip
     all_goals
      have F:=la SR SS o z R S q r t w;repeat refine st ?_
      refine⟨j+1,⟨v,fun m y i f=> ?_⟩,?_,?_,by omega⟩
      ·rcases NB.1 i with e|e
       ·exact b m y e f
       rw[e,J]at f;cases f;exact A
      ·exact qe
      have F:=aA.eq_1;exact qe
 rintro V E L b
 rw[show l.all (cZ c l)=true from Lm.2 fun y f=>by
  obtain⟨m,i⟩:=NL.1 f
  exact b m y (Ld.1 i).1 i]
 have F:=L;exact dT
end
section
def Cw(env:b6)(es:List (List AV))(b:cI es.length 8):b7 prog env 47 [.seq 1 es] (.own 3 1 es):=by
 cases es with
 |nil=>exact dQ env [] (by simp)
 | cons d l=>
   have a:cI ((l.length+1)) 8:=by simpa using b
   refine qf func47 call47 ntmps47 results47 ?_;have F:=a;exact dT
def IY{c:aq}(h:b8 c){a:Int}(p:ax c a=true){l:List Int}(q:gG l=true)(m: ∀x∈l,aE c a x=true):(∀x∈l,ed c x=true)/\(ii c a l).Nodup/\(∀x∈ii c a l,ed c x=true)/\l.length<=32:=by
 have i: ∀x∈l,ed c x=true:=fun x b=>aZ (m x b);obtain⟨t,s⟩:=gf (c:=c) (d:=a) (l:=l);obtain⟨sp,g,_⟩:=gn p
 have k:ed c a=true:=by
  unfold at_ at g;split at g
  ·rename_i n;have:=(Ld.1 g).1;exact aI.2 ⟨n,by omega⟩
  cases g
 have f: ∀x∈mw c l a,aE c a x=true:=fun x b=>by
  rcases (s x).1 b with b|⟨_,_,_,_,b⟩
  ·exact m x b
  exact b
 have j:a∉mw c l a:=fun o=>by
  have:=f _ o;unfold aE at this;have:=(jp h.toRight 40 a a (Lk.1 this)).2;omega
 refine⟨i,?_,fun x b=> ?_,?_⟩
 ·unfold ii;rw[Nc];refine⟨t,by simp,fun x b y r e=> ?_⟩;rw[MA.1 r]at e;rw[e]at b;exact j b
 ·unfold ii at b;rcases ML.1 b with b|b
  ·exact aZ (f x b)
  rw[MA.1 b];exact k
 have:=gz (jv q) i;have:=h.toRight.Z6;omega
def IX(env:b6)(c:aq)(h:b8 c)(hs:g6 c)(d:Int)(hp:ax c d=true)(l:List Int)(Y:cI l.length 8):b7 prog env 195 [aH c,I d, .seq 1 (l.map aa)] (B (BY c d l)):=by
 have p:l.length<=9223372036854775807:=Y.2;have f0:=xT env l p;have f1:=Cw env (l.map aa) (by rw[ME];exact Y);have X:=Cr l p;have f:=J7 l;unfold BY;cases P:l with
 | nil=>
   rw[show gG []=false from rfl,M0,M0,M0];unfold aH;refine qf func195 call195 ntmps195 results195 ?_;repeat refine m8 ?_
   exact p'
 |cons d0 l0=>
 rw[<-P];have z:l.isEmpty=false:=by rw[P];rfl
 have u:((l.length:Int)==0)=false:=by rw[P];simp;omega
 rw[z,NI,M5]at f;cases n:jD l with
 | false=>
   rw[n,M0]at f;rw[n]at f0;rw[<-f,M0,M0,M0];unfold aH;refine qf func195 call195 ntmps195 results195 ?_;have F:=u;exact g9 f0
 |true=>
 rw[n,M5]at f;rw[n]at f0;by_cases q:(Lib.compact l).length=l.length
 ·rw[M2 q]at f;have J:(((Lib.compact l).length:Int)==(l.length:Int))=true:=by simp[q]
  rw[<-f,M5];have f2:=fun k:Int=>fG env c h.toRight d k;have f3:=bP env c;unfold aQ at f2 f3;have W:=fun(k:Int)=>bc env c h k;unfold aH at f3 W |-;refine qf func195 call195 ntmps195 results195 ?_;have F:=u;repeat refine vb f0 f1 ?_
  refine uX 21 rfl (row:=⟨1,l.map aa,3,true⟩) X (MZ 0) rfl (bu _).symm (by simp only[go_sem];exact iR) (by simp only[go_sem];exact iR) (by simp only[go_sem];exact iR) (by simp only[go_sem];exact iR) iR ?_;rw[bu];have F:=fI u J jC;repeat refine st ?_
  refine lq l.length (by omega) (fun j vs=>[(0, .ref 9 [ca c] 0 0),(1,I d),(2, .seq 1 (l.map aa)),(28, .seq 1 (l.map aa)),(29,I l.length),(30,I j)]) (fun _ _=>[]) (fun j _ _=> ∀m (y:Int),m<j->l[m]? =some y->dv c d y=true) (fun m y s=>absurd s (by omega)) ?_ ?_
  ·rintro j ws N C t q2 g;obtain⟨x,o⟩:=gE C;have T:=Lh o;have w:=f2 x;have M:=W x;have v:dv c d x=false->(l.all (dv c d))=false:=fun hb=>Nu.2 ⟨_,T,by rw[hb];simp⟩;cases r:aE c d x with
   | false=>
     rw[v (by unfold dv;rw[r];rfl),M0,M0];rw[r]at w;have F:=ai o t;exact m5 f3 w
   | true=>
     rw[r]at w;rw[Lj (.inr (aZ r))]at M;cases A:(av c x true).isEmpty with
     | false=>
       rw[v (by unfold dv;rw[r,A];rfl),M0,M0]
       have V:(0:Int)< ((av c x true).length:Int):=by
        cases R:av c x true with
        |nil=>rw[R]at A;cases A
        |cons a b=>simp
       generalize av c x true=K at*;have F:=fI o t V;exact x5 f3 w M
     | true=>
       have V: ¬(0:Int)< ((av c x true).length:Int):=by
        rw[List.isEmpty_iff.1 A];simp
       have S:dv c d x=true:=by unfold dv;rw[r,A];rfl
       generalize av c x true=K at*;have F:=hH o t q2 V;repeat refine Qs f3 w M ?_
       refine⟨j+1,⟨C,fun m y s D=> ?_⟩,?_,?_,by omega⟩
       ·rcases NB.1 s with e|e
        ·exact g m y e D
        rw[e,o]at D;cases D;exact S
       ·exact qe
       exact qe
  rintro ws N t g
  have i:l.all (dv c d)=true:=Lm.2 fun y D=>by
   obtain⟨m,s⟩:=NL.1 D;exact g m y (Ld.1 s).1 s
  have hz: ∀x∈l,aE c d x=true:=fun x o=>by
   have:=Lm.1 i x o;unfold dv at this;rw[Li]at this;exact this.1
  obtain⟨k1,E,H,k4⟩:=IY h hp f.symm hz;have f5:=Il env c h.toRight l (by omega) k1 d;have f6:=Al env c h hs (ii c d l) E H;have hgl:=Ak h E H;have f7:=Ct env c h hs d (oj c (ii c d l)) (by omega) fun x o=>((eV h E).1 o).in h H
  have hul:(mw c l d).length<=32:=by
   have:=gz E H;unfold ii at this;rw[Ll]at this;have:=h.toRight.Z6;omega
  have Z:cI ((mw c l d).length+1) 8:=aC (by omega) (by omega);have hA:(ii c d l).map aa=(mw c l d).map aa++[[I d]]:=by unfold ii;rw[Ln];rfl
  have O:(ii c d l).length=(mw c l d).length+1:=by unfold ii;simp
  rw[i,M5];rw[hA]at f6;rw[O];unfold aH at f5 f6 f7;generalize oj c (ii c d l)=G at*;generalize mw c l d=U at*;by_cases Q:G.length=U.length+1
  ·have L:((G.length:Int)==((U.length+1:Nat):Int))=true:=by simp[Q]
   rw[M2 Q,M5];have F:=fI t Z L;exact x5 f5 f6 f7
  have L:((G.length:Int)==((U.length+1:Nat):Int))=false:=by simp;omega
  rw[MU Q,M0];have F:=fI t Z L;exact m5 f5 f6
 rw[MU q]at f;have J:(((Lib.compact l).length:Int)==(l.length:Int))=false:=by simp;omega
 rw[<-f,M0,M0,M0];unfold aH;refine qf func195 call195 ntmps195 results195 ?_;have F:=u;repeat refine vb f0 f1 ?_
 refine uX 21 rfl (row:=⟨1,l.map aa,3,true⟩) X (MZ 0) rfl (bu _).symm (by simp only[go_sem];exact iR) (by simp only[go_sem];exact iR) (by simp only[go_sem];exact iR) (by simp only[go_sem];exact iR) iR ?_;rw[bu];have F:=fI u J jC;exact dT
end
section
def sA{c:aq}(h:b8 c){k:Nat}{s:na}(g:c.Z9[k]? =some s)(f:s.kind=4\/s.kind=5):ax c s.parent=true/\ed c s.parent=true:=by
 have a:cq c s=true:=by
  rcases h.cases g with⟨e,_⟩|⟨e,_⟩|⟨e,_⟩|⟨_,_,e,_⟩
  ·omega
  ·omega
  ·omega
  exact e
 unfold cq at a;cases b:at_ c s.parent with
 |none=>rw[b]at a;cases a
 | some p=>
   rw[b]at a;refine⟨?_,?_⟩
   ·unfold ax;rw[b];unfold eK;simp only at a |-;rw[a];rfl
   unfold at_ at b;split at b
   ·rename_i d;have:=(Ld.1 b).1;exact aI.2 ⟨d,by omega⟩
   cases b
def JQ{c:aq}{i:Int}(h:ed c i=false):at_ c i=none:=by
 unfold at_;split
 ·rename_i a;refine Lu ?_;have: ¬(0<=i/\i< (c.Z9.length:Int)):=fun q=>by rw[aI.2 q]at h;cases h
  omega
 rfl
def CU(env:b6)(c:aq)(h:b8 c)(v:g6 c)(m:dg)(p:cI m.2.length 8):b7 prog env 139 [aH c, .agg (eg m)] (B (kx c m)):=by
 obtain⟨i,l⟩:=m;have p:cI l.length 8:=p;have f0:=au env c v;unfold kx eg;simp only;cases f:ed c i with
 | false=>
   rw[JQ f];simp only;unfold aH at f0 |-;by_cases t:i<0
   ·refine qf func139 call139 ntmps139 results139 ?_;have F:=ai SR t;exact g9 f0
   have e:(c.Z9.length:Int)<=i:=by
    have: ¬(0<=i/\i< (c.Z9.length:Int)):=fun q=>by rw[aI.2 q]at f;cases f
    omega
   refine qf func139 call139 ntmps139 results139 ?_;have F:=fI SR t e;exact g9 f0
 |true=>
 obtain⟨k,s,rfl,a,r⟩:=cO f;have C:=(Ld.1 a).1;have g: ¬(k:Int)<0:=by omega
 have j: ¬(c.Z9.length:Int)<=(k:Int):=by omega
 have n:((k:Nat):Int)< (c.Z9.length:Int):=by omega
 rw[r];simp only;have u:=h.Z6;by_cases d:s.kind=4
 ·rw[Lj d];have b:(s.kind==4)=true:=by simp[d]
  obtain⟨w,x⟩:=sA h a (.inl d);have f2:=bc env c h s.parent;rw[Lj (.inr x), <-b9]at f2;have A:=bC h.toRight s.parent true;by_cases e:l.length=1
  ·obtain⟨y,rfl⟩: ∃y,l=[y]:=OY.1 e;have f3:=bJ env (zL (av c s.parent true)) y (by rw[ak];omega);show b7 _ _ _ _ (B ((zL (av c s.parent true)).contains y));generalize zL (av c s.parent true)=Z at*;unfold aH at f0 f2 |-;refine qf func139 call139 ntmps139 results139 ?_;have F:=lP SR SS a g j n b;exact x5 f0 f2 f3
  have z:((l.length:Int)==1)=false:=by simp;omega
  rw[MU e,M0];unfold aH at f0 |-;refine qf func139 call139 ntmps139 results139 ?_;have F:=ns SR SS a g j n b z;exact g9 f0
 ·rw[Lf d];have b:(s.kind==4)=false:=by simpa using d
  cases o:(s.kind==5) with
  | false=>
    rw[M0];unfold aH at f0 |-;refine qf func139 call139 ntmps139 results139 ?_;have F:=ns SR SS a g j n b o;exact g9 f0
  | true=>
    rw[M5];obtain⟨w,x⟩:=sA h a (.inr (by simpa using o));have f2:=IX env c h v s.parent w l p;unfold aH at f0 f2 |-;generalize BY c s.parent l=D at*;refine qf func139 call139 ntmps139 results139 ?_;have F:=ns SR SS a g j n b o;exact m5 f0 f2
def JK(a:Addr)(c:aq)(mem:List dg):AV:=if bZ c mem=true then h8 else fc (-1) (cf a)
def oE{c:aq}{mem:List dg}{j:Nat}(a:j<mem.length)(h:ma c mem j=false):bZ c mem=false:=by
 unfold bZ;rw[Nu];exact⟨j,MK.2 a,by rw[h];simp⟩
def vm{c:aq}{mem:List dg}(h: ∀j,j<mem.length->ma c mem j=true):bZ c mem=true:=by
 unfold bZ;rw[Lm];exact fun j a=>h j (MK.1 a)
def pZ(env:b6)(l u:Addr)(C:fq env l u)(c:aq)(h:b8 c)(D:g6 c)(mem:List dg)(H:mem.length<=1000000)(B: ∀m∈mem,cI m.2.length 8):b7 prog env 82 [aH c,ff mem] (JK l c mem):=by
 have v:=Cf env l u C [101,110,116,101,114,46,67,104,101,99,107];unfold JK;generalize cf l=E at*;unfold aH;refine qf func82 call82 ntmps82 results82 ?_;repeat refine m8 ?_
 refine PA mem.length (by omega) (fun j J=>[(0, .ref 9 [ca c] 0 0),(1,ff mem),(11,ff mem),(12,I mem.length),(13,I j)]) (fun _ _=>[]) (fun j _ _=> ∀m,m<j->ma c mem m=true) (fun m q=>absurd q (by omega)) ?_ ?_
 ·rintro j G r d k z b;obtain⟨x,g⟩:=gE d;have f1:=CU env c h D x (B x (Lh g));have a:ma c mem j=(kx c x&&((j==0)||decide ((mem.getD (j-1) (0,[])).1<x.1))):=by unfold ma;rw[g]
  unfold aH eg at f1;cases o:kx c x with
  | false=>
    rw[o]at f1;rw[Lf (by rw[oE d (by rw[a,o];rfl)];simp)];have F:=fI S6 g k;exact m5 f1 v
  | true=>
    rw[o]at f1;rw[o,M5]at a;by_cases A:j=0
    ·have n: ¬(0:Int)< (j:Int):=by omega
     have F:=g7 S6 g k z n;repeat refine ef f1 ?_
     refine⟨j+1,⟨d,fun m q=> ?_⟩,?_,?_,by omega⟩
     ·obtain rfl:m=j:=by omega
      rw[a,A];rfl
     ·exact qe
     exact qe
    obtain⟨i,rfl⟩: ∃i,j=i+1:=⟨j-1,by omega⟩;obtain⟨p,t⟩: ∃p,mem[i]? =some p:=⟨mem[i]'(by omega),Lc (by omega)⟩;have n:(0:Int)< ((i+1:Nat):Int):=by omega
    have w:IntKind.i64.wrap (((i+1:Nat):Int)-1)=(i:Int):=by rw[O0 _ (by omega)];omega
    have y:((i:Nat):Int)< (mem.length:Int):=by omega
    have s:mem.getD (i+1-1) (0,[])=p:=by rw[OG,MJ,t];rfl
    rw[s]at a;by_cases f:x.1<=p.1
    ·rw[Lf (by rw[oE d (by rw[a,MU (by omega)];rfl)];simp)];have F:=ns S6 g t k n w y f;exact m5 f1 v
    have F:=pf S6 g t k z n w y f;repeat refine ef f1 ?_
    refine⟨i+1+1,⟨d,fun m q=> ?_⟩,?_,?_,by omega⟩
    ·rcases NB.1 q with e|e
     ·exact b m e
     rw[e,a,M2 (by omega)];simp
    ·exact qe
    exact qe
 rintro G r k b;rw[Lj (vm b)];have F:=k;exact dT
end
section
def H0{l:List Int}{j:Nat}(a:j<l.length)(h:Rw l j=false):gG l=false:=by
 unfold gG;rw[Bool.and_eq_false_iff];right;rw[Nu];exact⟨j,MK.2 a,by rw[h];simp⟩
def HZ{l:List Int}(h: ∀j,j<l.length->Rw l j=true):gG l=decide ((0:Int)< (l.length:Int)):=by
 unfold gG;rw[Lm.2 fun j c=>h j (MK.1 c),Pn];cases l with
 |nil=>rfl
 |cons a b=>rw[M2 (by simp only[MB];omega)];rfl
def zM(env:b6)(l:List Int)(v:l.length<=9223372036854775807):b7 prog env 173 [.seq 1 (l.map aa)] (B (gG l)):=by
 refine qf func173 call173 ntmps173 results173 ?_;repeat refine m8 ?_
 refine aG (D:=Nat) (fun j w=>[(0, .seq 1 (l.map aa)),(3,I ((j+1:Nat):Int))]) (fun _ _=>[]) (fun j _ _=>j<=l.length/\ ∀m,m<=j->m<l.length->Rw l m=true) (fun j=>l.length-j) 0 ?_ ?_ ?_ ?_
 ·refine⟨Lx _,fun m f _=> ?_⟩;obtain rfl:m=0:=by omega
  rfl
 ·(simp only[go_sem])
  try rfl
 ·(simp only[go_sem])
  try rfl
 rintro j x o ⟨u,a⟩;by_cases b:j+1<l.length
 ·have f:j<l.length:=by omega
  have k:l[j+1]? =some (l.getD (j+1) 0):=by rw[MJ,Lc b];rfl
  have n:l[j]? =some (l.getD j 0):=by rw[MJ,Lc f];rfl
  have e:IntKind.i64.wrap (((j+1:Nat):Int)-1)=(j:Int):=by rw[O0 _ (by omega)];omega
  have c:((j+1:Nat):Int)< (l.length:Int):=by omega
  have i:((j:Nat):Int)< (l.length:Int):=by omega
  have q:=aD b (by omega)
  have h:Rw l (j+1)=decide (l.getD j 0<l.getD (j+1) 0):=by
   unfold Rw;rw[show (j+1==0)=false by simp,NY,OG]
  generalize s:l.getD (j+1) 0=X at*;generalize t:l.getD j 0=Y at*;by_cases g:X<=Y
  ·rw[H0 b (by rw[h,MU (by omega)])];have F:=ip c i k n e g;exact dT
  have F:=lP c i q k n e g;repeat refine st ?_
  refine⟨j+1,⟨by omega,fun m r p=> ?_⟩,?_,?_,by omega⟩
  ·by_cases d:m=j+1
   ·rw[d,h,M2 (by omega)]
   exact a m (by omega) p
  ·exact qe
  exact qe
 have c: ¬((j+1:Nat):Int)< (l.length:Int):=by omega
 rw[HZ fun m d=>a m (by omega) d];have F:=c;exact dT
def kK(c:aq)(l:List Int)(d:Int)(j:Nat):List Nat:=(List.range j).filter (qY c l d)
def zT(c:aq)(l:List Int)(d:Int)(j:Nat):kK c l d (j+1)=if qY c l d j then kK c l d j++[j] else kK c l d j:=by
 unfold kK;rw[Nn,MR];cases a:qY c l d j<;>simp[a]
def y'(c:aq)(l:List Int)(d:Int)(i:Nat)(m:Nat):Bool:=l.contains (i:Int)||(l.take m).any fun k=>aE c i k&&aE c d i
def zU{c:aq}{l:List Int}{d:Int}{i m:Nat}{y:Int}(h:l[m]? =some y):y' c l d i (m+1)=(y' c l d i m||(aE c i y&&aE c d i)):=by
 unfold y';rw[MM,h,List.any_append];simp only[PZ,Ob,P8,Bool.or_false,Bool.or_assoc]
def vY(env:b6)(c:aq)(z:Right c)(l:List Int)(K:l.length<=1000000)(d:Int):b7 prog env 175 [.agg (aA c), .seq 1 (l.map aa),I d] (.own 3 1 ((rt c l d).map aB)):=by
 have A:=z.Z6;have t:=fun(k i:Int)=>eM env c z k i;unfold aA at t;refine qf func175 call175 ntmps175 results175 ?_;have F:=aA.eq_1;repeat refine st ?_
 have F:=aA.eq_1;refine lq c.Z9.length (by omega) (fun j o=>[(1, .seq 1 (l.map aa)),(2,I d),(3, .loc 3 (o 3) 0 0),(7, .row 11 (o 11)),(8,I j)]) (fun j _=>[(3,⟨5,[aA c],26,false⟩),(11,⟨1,(kK c l d j).map aB,3,true⟩)]) (fun j _ e=>e 11=false) rfl ?_ ?_
 ·rintro j N e n w C a;have f0:=cF env l (j:Int) K;have r:=zT c l d j;have L:(kK c l d j).length<=32:=Ly (MF ..) (by simp;omega);have J:cI ((kK c l d j).length+1) 8:=aC (by omega) (by omega);have u:qY c l d j=y' c l d j l.length:=by unfold qY y';rw[MC]
  have O:y' c l d j 0=l.contains (j:Int):=by unfold y';simp
  generalize H:kK c l d j=D at*;rw[<-O]at f0;have F:=fI SR w a;repeat refine ef f0 ?_
  have F:=aA.eq_1;refine lq l.length (by omega) (fun m o=>[(1, .seq 1 (l.map aa)),(2,I d),(3, .loc 3 (o 3) 0 0),(7, .row 11 (o 11)),(8,I j),(9,B (y' c l d j m)),(10,I m)]) (fun m _=>[(3,⟨5,[aA c],26,false⟩),(11,⟨1,D.map aB,3,true⟩)]) (fun m _ e=>e 11=false) (by simp only[go_sem,a]) ?_ ?_
  ·try clear a
   rintro m M E f h v a;obtain⟨y,s⟩:=gE f;have g:=zU (c:=c) (d:=d) (i:=j) s;have p:=t (j:Int) y;have G:=t d (j:Int);generalize y' c l d j m=b at*;cases b with
   | true=>
     rw[P7]at g;have F:=g7 SR s h v a;repeat refine st ?_
     refine⟨m+1,⟨f,by simp only[go_sem,a]⟩,?_,?_,by omega⟩
     ·have F:=g;exact qe
     have F:=aA.eq_1;exact qe
   | false=>
     rw[NY]at g;cases q:aE c (j:Int) y with
     | false=>
       rw[q]at p;rw[q,M0]at g;have F:=g7 SR s h v a;repeat refine ef p ?_
       refine⟨m+1,⟨f,by simp only[go_sem,a]⟩,?_,?_,by omega⟩
       ·have F:=g;exact qe
       have F:=aA.eq_1;exact qe
     | true=>
       rw[q]at p;rw[q,M5]at g;have F:=g7 SR s h v a;repeat refine vb p G ?_
       refine⟨m+1,⟨f,by simp only[go_sem,a]⟩,?_,?_,by omega⟩
       ·have F:=g;exact qe
       have F:=aA.eq_1;exact qe
  ·try clear a
   rintro M E h a;rw[<-u];cases x:qY c l d j with
   | true=>
     rw[x]at r;have F:=g7 SR h C a J;repeat refine st ?_
     refine⟨j+1,⟨n,by simp only[go_sem,a]⟩,?_,?_,by omega⟩
     ·exact qe
     have F:=hH SR r @Ln.{0,0} SU;exact qe
   | false=>
     rw[x]at r;have F:=hH SR h C a;repeat refine st ?_
     refine⟨j+1,⟨n,by simp only[go_sem,a]⟩,?_,?_,by omega⟩
     ·exact qe
     have F:=ai SR r;exact qe
 rintro N e w a;rw[show rt c l d=kK c l d c.Z9.length from rfl];have F:=fI SR w a;exact dT
end
section
def AZ(c:aq)(l:List Int)(d:Int):(rt c l d).length<=c.Z9.length:=Ly (MF ..) (by simp)
def Gf{c:aq}{a:Int}(e:ed c a=true)(l:List Int): ∀x∈md c a l,ed c x=true:=fun x b=>by
 unfold md at b;rcases ML.1 b with b|b
 ·obtain⟨k,d,rfl⟩:=Lp.1 b;exact aV.2 (MK.1 (Lq.1 d).1)
 rw[MA.1 b];exact e
def F3(env:b6)(c:aq)(h:b8 c)(d:Int)(hp:ed c d=true)(l:List Int)(hF:cI l.length 8):b7 prog env 119 [.agg (aA c),I d, .seq 1 (l.map aa)] (B (so c d l)):=by
 have S:l.length<=9223372036854775807:=hF.2;have f0:=zM env l S;have hlen:=h.Z6;have fA:=fun(i:Int)=>eM env c h.toRight d i;have W:=fun(i:Int)=>be env c i true (by omega);have fM:=fun(s:na)=>bo env s;unfold aA at fA W;unfold aK at fM;unfold so;cases Y:gG l with
 | false=>
   rw[Y]at f0;rw[M0,M0];refine qf func119 call119 ntmps119 results119 ?_;have F:=aA.eq_1;exact g9 f0
 |true=>
 rw[Y]at f0;rw[M5];refine qf func119 call119 ntmps119 results119 ?_;have F:=aA.eq_1;repeat refine ef f0 ?_
 refine aG (D:=Nat) (fun j V=>[(1,I d),(2, .seq 1 (l.map aa)),(3, .loc 3 (V 3) 0 0),(7,I j)]) (fun _ _=>[(3,⟨5,[aA c],26,false⟩)]) (fun j _ _=>j<=l.length/\ ∀m (y:Int),m<j->l[m]? =some y->cz c d y=true) (fun j=>l.length-j) 0 ?_ ?_ ?_ ?_
 ·exact⟨Lx _,fun m y n=>absurd n (by omega)⟩
 ·(simp only[go_sem,F])
  try rfl
 ·have F:=aA.eq_1
  (simp only[go_sem,F])
  try rfl
 rintro j ws esc ⟨hj,f⟩;by_cases g:j<l.length
 ·obtain⟨x,q⟩:=gE g;have r:=h9 g;have Z:=aD g (by omega);have z:=Lh q;have C:cz c d x=false->(l.all (cz c d))=false:=fun hb=>Nu.2 ⟨_,z,by rw[hb];simp⟩;have G:=fA x;cases Q:aE c d x with
  | false=>
    rw[C (by unfold cz;rw[Q];rfl),M0];rw[Q]at G;have F:=fI SR q r;exact g9 G
  | true=>
    rw[Q]at G;obtain⟨k,s,rfl,o,E⟩:=cO (aZ Q);have hk:=(Ld.1 o).1;have H:((k:Nat):Int)< (c.Z9.length:Int):=by omega
    have J:=fM s;have L:=W (k:Int);have u:cz c d (k:Int)=(!aU s&&(av c k true).isEmpty):=by unfold cz;rw[Q,E,M5]
    cases n:aU s with
    | true=>
      rw[C (by rw[u,n];rfl),M0];rw[n]at J;have F:=ip SR SS q r H o;exact m5 G J
    | false=>
      rw[n]at J u;cases t:(av c k true).isEmpty with
      | false=>
        rw[C (by rw[u,t];rfl),M0]
        have q4:(0:Int)< ((av c k true).length:Int):=by
         cases w:av c k true with
         |nil=>rw[w]at t;cases t
         |cons a b=>simp
        generalize av c (k:Int) true=K at*;have F:=lP SR SS q r H q4 o;exact x5 G J L
      | true=>
        rw[t]at u
        have q4: ¬(0:Int)< ((av c k true).length:Int):=by
         rw[List.isEmpty_iff.1 t];simp
        generalize av c (k:Int) true=K at*;have F:=ns SR SS q r Z H q4 o;repeat refine Qs G J L ?_
        refine⟨j+1,⟨g,fun m y n v=> ?_⟩,?_,?_,by omega⟩
        ·rcases NB.1 n with e|e
         ·exact f m y e v
         rw[e,q]at v;cases v;rw[u];rfl
        ·exact qe
        have F:=aA.eq_1;exact qe
 obtain rfl:j=l.length:=by omega
 have r:=nl l.length
 have p:l.all (cz c d)=true:=Lm.2 fun y v=>by
  obtain⟨m,n⟩:=NL.1 v;exact f m y (Ld.1 n).1 n
 have hz: ∀x∈l,ed c x=true:=fun x q=>by
  have:=Lm.1 p x q;unfold cz at this;rw[Li,Li]at this;exact aZ this.1.1
 have hl32:l.length<=32:=by
  have:=gz (jv Y) hz;omega
 have f5:=vY env c h.toRight l (by omega) d;have hpl:=AZ c l d;have X:cI ((rt c l d).length+1) 8:=aC (by omega) (by omega);have P:=Gf hp l;have hA:(md c d l).map aa=(rt c l d).map aB++[[I d]]:=by unfold md;rw[Ln,b9];rfl
 have hAl:(md c d l).length<=40:=by unfold md;rw[Ll,ak];simp;omega
 rw[p,M5];unfold aA at f5;generalize md c d l=A at*;generalize rt c l d=U at*;try clear f p
 have F:=fI SR r X;repeat refine ef f5 ?_
 have F:=ai SR hA;refine lq A.length (by omega) (fun j V=>[(3, .loc 3 (V 3) 0 0),(8, .row 53 (V 53)),(9,I j)]) (fun _ _=>[(3,⟨5,[aA c],26,false⟩),(53,⟨1,A.map aa,3,true⟩)]) (fun j _ _=> ∀m (y:Int),m<j->A[m]? =some y->dA c A y=true) (fun m y n=>absurd n (by omega)) ?_ ?_
 ·try clear r g hj X
  rintro j us es g r Z f;obtain⟨x,q⟩:=gE g;have z:=Lh q;obtain⟨k,s,rfl,o,E⟩:=cO (P x z);have hk:=(Ld.1 o).1;have H:((k:Nat):Int)< (c.Z9.length:Int):=by omega
  have L:=W (k:Int);have hK:=bC h.toRight k true;have e5:=fg env A (av c k true) (by omega) (by omega);have R:dA c A (k:Int)= !(((s.kind==1)&&decide (bx A (av c k true)≠min (av c k true).length 1))||((s.kind==2)&&decide (bx A (av c k true)≠(av c k true).length))):=by unfold dA;rw[E]
  generalize av c (k:Int) true=K at*;generalize bx A K=N at*
  have g1:((N:Int) != if (1:Int)< (K.length:Int) then 1 else(K.length:Int))=decide (N≠min K.length 1):=by
   have e:(if (1:Int)< (K.length:Int) then(1:Int) else(K.length:Int))=((min K.length 1:Nat):Int):=by split<;>omega
   rw[e];by_cases w:N=min K.length 1
   ·rw[MU (by simp[w]), <-w];simp
   rw[M2 w];simp;omega
  have g2:((N:Int) != (K.length:Int))=decide (N≠K.length):=by
   by_cases w:N=K.length
   ·rw[MU (by simp[w]), <-w];simp
   rw[M2 w];simp;omega
  generalize decide (N≠min K.length 1)=v1 at*;generalize decide (N≠K.length)=v2 at*;cases T:dA c A (k:Int) with
  | false=>
    rw[show A.all (dA c A)=false from Nu.2 ⟨_,z,by rw[T];simp⟩];cases M:(s.kind==1)<;>cases O:(s.kind==2)<;>cases v1<;>cases v2
    all_goals first
     |(exfalso;simp[R,M,O]at T;done)
     |skip
    all_goals
     have F:=la SR SS q r H o M O g1 g2;exact m5 L e5
  | true=>
    cases M:(s.kind==1)<;>cases O:(s.kind==2)<;>cases v1<;>cases v2
    all_goals first
     |(exfalso;simp[R,M,O]at T;done)
     |skip
    all_goals
     have F:=pc SR SS q r Z H o M O g1 g2;repeat refine vb L e5 ?_
     refine⟨j+1,⟨g,fun m y n v=> ?_⟩,?_,?_,by omega⟩
     ·rcases NB.1 n with e|e
      ·exact f m y e v
      rw[e,q]at v;cases v;exact T
     ·exact qe
     have F:=aA.eq_1;exact qe
 try clear r g hj X
 rintro us es r f
 rw[show A.all (dA c A)=true from Lm.2 fun y v=>by
  obtain⟨m,n⟩:=NL.1 v
  exact f m y (Ld.1 n).1 n]
 have F:=r;exact dT
end
section
def ue(env:b6)(c:aq)(h:b8 c)(m:dg)(j:cI m.2.length 8):b7 prog env 69 [.agg (aA c), .agg (eg m)] (B (kx c m)):=by
 obtain⟨i,l⟩:=m;have j:cI l.length 8:=j;have f0:=rc env c i;have p:=h.Z6;unfold aA at f0;unfold kx eg;simp only;cases e:ed c i with
 | false=>
   rw[JQ e];rw[e]at f0;simp only;refine qf func69 call69 ntmps69 results69 ?_;have F:=aA.eq_1;exact g9 f0
 |true=>
 rw[e]at f0;obtain⟨k,s,rfl,a,n⟩:=cO e;have v:=(Ld.1 a).1;have f:((k:Nat):Int)< (c.Z9.length:Int):=by omega
 rw[n];simp only;by_cases d:s.kind=4
 ·rw[Lj d];have b:(s.kind==4)=true:=by simp[d]
  obtain⟨q,r⟩:=sA h a (.inl d);have f2:=be env c s.parent true (by omega);rw[<-b9]at f2;have u:=bC h.toRight s.parent true;by_cases o:l.length=1
  ·obtain⟨y,rfl⟩: ∃y,l=[y]:=OY.1 o;have f3:=cF env (zL (av c s.parent true)) y (by rw[ak];omega);show b7 _ _ _ _ (B ((zL (av c s.parent true)).contains y));unfold aA at f2;generalize zL (av c s.parent true)=Z at*;refine qf func69 call69 ntmps69 results69 ?_;have F:=g7 SR SS a f b;exact x5 f0 f2 f3
  have t:((l.length:Int)==1)=false:=by simp;omega
  rw[MU o,M0];refine qf func69 call69 ntmps69 results69 ?_;have F:=ip SR SS a f b t;exact g9 f0
 ·rw[Lf d];have b:(s.kind==4)=false:=by simpa using d
  cases g:(s.kind==5) with
  | false=>
    rw[M0];refine qf func69 call69 ntmps69 results69 ?_;have F:=ip SR SS a f b g;exact g9 f0
  | true=>
    rw[M5];obtain⟨q,r⟩:=sA h a (.inr (by simpa using g));have f2:=F3 env c h s.parent r l j;rw[<-pT h q]at f2;unfold aA at f2;generalize BY c s.parent l=D at*;refine qf func69 call69 ntmps69 results69 ?_;have F:=ip SR SS a f b g;exact m5 f0 f2
def xP(env:b6)(c:aq)(h:b8 c)(mem:List dg)(C:mem.length<=1000000)(y: ∀m∈mem,cI m.2.length 8):b7 prog env 36 [.agg (aA c),ff mem] (B (bZ c mem)):=by
 refine qf func36 call36 ntmps36 results36 ?_;repeat refine m8 ?_
 have F:=aA.eq_1;refine lq mem.length (by omega) (fun j z=>[(1,ff mem),(2, .loc 2 (z 2) 0 0),(5,I j)]) (fun _ _=>[(2,⟨5,[aA c],26,false⟩)]) (fun j _ _=> ∀m,m<j->ma c mem m=true) (fun m o=>absurd o (by omega)) ?_ ?_
 ·rintro j A q d k v b;obtain⟨x,g⟩:=gE d;have f1:=ue env c h x (y x (Lh g));have a:ma c mem j=(kx c x&&((j==0)||decide ((mem.getD (j-1) (0,[])).1<x.1))):=by unfold ma;rw[g]
  unfold aA eg at f1;cases n:kx c x with
  | false=>
    rw[n]at f1;rw[oE d (by rw[a,n];rfl)];have F:=hH SR S6 g k;exact g9 f1
  | true=>
    rw[n]at f1;rw[n,M5]at a;by_cases w:j=0
    ·have l: ¬(0:Int)< (j:Int):=by omega
     have F:=ip SR S6 g k v l;repeat refine ef f1 ?_
     refine⟨j+1,⟨d,fun m o=> ?_⟩,?_,?_,by omega⟩
     ·obtain rfl:m=j:=by omega
      rw[a,w];rfl
     ·exact qe
     have F:=aA.eq_1;exact qe
    obtain⟨i,rfl⟩: ∃i,j=i+1:=⟨j-1,by omega⟩;obtain⟨p,s⟩: ∃p,mem[i]? =some p:=⟨mem[i]'(by omega),Lc (by omega)⟩;have l:(0:Int)< ((i+1:Nat):Int):=by omega
    have t:IntKind.i64.wrap (((i+1:Nat):Int)-1)=(i:Int):=by rw[O0 _ (by omega)];omega
    have u:((i:Nat):Int)< (mem.length:Int):=by omega
    have r:mem.getD (i+1-1) (0,[])=p:=by rw[OG,MJ,s];rfl
    rw[r]at a;by_cases f:x.1<=p.1
    ·rw[oE d (by rw[a,MU (by omega)];rfl)];have F:=pf SR S6 g s k l t u f;exact g9 f1
    have F:=la SR S6 g s k v l t u f;repeat refine ef f1 ?_
    refine⟨i+1+1,⟨d,fun m o=> ?_⟩,?_,?_,by omega⟩
    ·rcases NB.1 o with e|e
     ·exact b m e
     rw[e,a,M2 (by omega)];simp
    ·exact qe
    have F:=aA.eq_1;exact qe
 rintro A q k b;rw[vm b];have F:=k;exact dT
end
end Go.Proofs.YtknkhdgfhbogdaaGreatDoor
