/- Package value: what an operation comes to. -/
import Derived.Test.YtfhkmjbjafeckaaGreatDoorQ20
import Derived.Test.YtfhkmjbjafeckaaGreatDoorQ7
set_option maxRecDepth 100000
set_option maxHeartbeats 16000000
set_option linter.unusedSimpArgs false
set_option linter.defProp false
namespace Go.Proofs.YtfhkmjbjafeckaaGreatDoor
open Go.Proofs.Tryz
open Go.RowKit
section
def tX(env:cf)(x:Int):b8 prog env 288 [I x] (B false):=by
 have a:(x==x)=true:=by simp
 refine qf func288 call288 ntmps288 results288 ?_;have F:=ai a jM;exact fc
def HZ(env:cf)(x y:Int):b8 prog env 258 [I x,I y] (B (decide (x<y))):=by
 have f0:=tX env x;have f1:=tX env y;by_cases h:x<y
 ·rw[Ny h];refine qf func258 call258 ntmps258 results258 ?_;have F:=h;exact ns f0 f1
 rw[Nm h];refine qf func258 call258 ntmps258 results258 ?_;have F:=h;exact ns f0 f1
def AZ{l:List Int}{n:Nat}(h: ∀j,n<=j->j<l.length->jQ l j=true)(c:n<=1):jN l=true:=by
 unfold jN;rw[NB];intro j a;have a:=NZ.1 a;by_cases b:n<=j
 ·exact h j b a
 obtain rfl:j=0:=by omega
 rfl
def Cw{l:List Int}{j:Nat}(a:j<l.length)(h:jQ l j=false):jN l=false:=by
 unfold jN;rw[QE];exact⟨j,NZ.2 a,by rw[h];simp⟩
def ya(env:cf)(l:List Int)(G:l.length<=9223372036854775807):b8 prog env 264 [.seq 1 (l.map aa)] (B (jN l)):=by
 have x:IntKind.i64.wrap ((l.length:Int)-1)=(l.length:Int)-1:=Q6 _ (by omega);refine qf func264 call264 ntmps264 results264 ?_;have F:=x;repeat refine st ?_
 refine aH (D:=Nat) (fun j H=>[(0, .seq 1 (l.map aa)),(3,I ((l.length:Int)-1-(j:Int)))]) (fun _ _=>[]) (fun j _ _=>j<=l.length/\ ∀m,l.length-j<=m->m<l.length->jQ l m=true) (fun j=>l.length-j) 0 ?_ ?_ ?_ ?_
 ·exact⟨NJ _,fun m c d=>absurd d (by omega)⟩
 ·have F:=Int.sub_zero
  (simp only[go_sem,F])
  try rfl
 ·(simp only[go_sem,Int.sub_zero])
  try rfl
 rintro j J t ⟨E,a⟩;by_cases e:0< (l.length:Int)-1-(j:Int)
 ·have v: ∃i:Nat,(l.length:Int)-1-(j:Int)=(i:Int)/\i+j+1=l.length:=⟨l.length-1-j,by omega,by omega⟩;obtain⟨i,s,y⟩:=v;have c:i<l.length:=by omega
  have d:i-1<l.length:=by omega
  have q:l[i]? =some (l.getD i 0):=by rw[N3,Ms c];rfl
  have r:l[i-1]? =some (l.getD (i-1) 0):=by rw[N3,Ms d];rfl
  have f:IntKind.i64.wrap ((i:Int)-1)=((i-1:Nat):Int):=by rw[Q6 _ (by omega)];omega
  have k:(0:Int)< (i:Int):=by omega
  have o:(i:Int)< (l.length:Int):=by omega
  have p:((i-1:Nat):Int)< (l.length:Int):=by omega
  have h:jQ l i=decide (¬l.getD i 0<l.getD (i-1) 0):=by
   unfold jQ;rw[show (i==0)=false by simp;omega,PF]
  rw[s];generalize A:l.getD i 0=X at*;generalize C:l.getD (i-1) 0=Y at*;have f0:=HZ env X Y;by_cases b:X<Y
  ·rw[Ny b]at f0;rw[Cw c (by rw[h,Nm (by simpa using b)])];have F:=kv k o p q r f;exact kb f0
  rw[Nm b]at f0;have g:(l.length:Int)-1-((j+1:Nat):Int)=((i-1:Nat):Int):=by omega
  have F:=kv k o p q r f;repeat refine ff f0 ?_
  refine⟨j+1,⟨by omega,fun m z u=> ?_⟩,?_,?_,by omega⟩
  ·by_cases w:m=i
   ·rw[w,h,Ny b]
   exact a m (by omega) u
  ·have F:=g;exact qe
  ·(simp only[go_sem,g])
 rw[AZ (n:=l.length-j) a (by omega)];have F:=e;exact fc
def EM(env:cf)(c:aq)(h:ct c)(U:hP c)(g:Int)(l:List Int)(T:l.length<=1000000)(P: ∀x∈l,fi c x=true):b8 prog env 268 [aG c,I g, .seq 1 (l.map aa)] (B (l.all (cc c l))):=by
 have f0:=ay env c U;unfold aG at f0 |-;refine qf func268 call268 ntmps268 results268 ?_;have F:=aA.eq_1;repeat refine ff f0 ?_
 have F:=aA.eq_1;refine lq l.length (by omega) (fun j C=>[(0, .ref 9 [cy c] 0 0),(2, .seq 1 (l.map aa)),(7, .loc 7 (C 7) 0 0),(16, .seq 1 (l.map aa)),(17,I l.length),(18,I j)]) (fun _ _=>[(7,⟨5,[aA c],26,false⟩)]) (fun j _ _=> ∀m (y:Int),m<j->l[m]? =some y->cc c l y=true) (fun m y i=>absurd i (by omega)) ?_ ?_
 ·rintro j V E v L R b;obtain⟨x,J⟩:=gE v;have p:=My J;obtain⟨k,s,rfl,o,G⟩:=dB (P x p);have Y:=(Mt.1 o).1;have S:((k:Nat):Int)< (c.Z9.length:Int):=by omega
  have f1:=bc env c h k;rw[Mw (.inr (P _ p))]at f1;have u:cc c l (k:Int)= !(((s.kind==1)&&decide (1<ch l (av c k true)))||((s.kind==4)||(s.kind==5))):=by unfold cc;rw[G]
  have X:=bU h.toRight k true;have O:=h.Z6;unfold aG at f1;generalize av c (k:Int) true=K at*;have F:=gs J L R;repeat refine ff f1 ?_
  refine aH (D:=Nat) (fun m C=>[(0, .ref 9 [cy c] 0 0),(2, .seq 1 (l.map aa)),(7, .loc 7 (C 7) 0 0),(9,I k),(10,I (ch l (K.take m):Nat)),(16, .seq 1 (l.map aa)),(17,I l.length),(18,I j),(24, .row 24 (C 24)),(25,I K.length),(26,I m)]) (fun _ _=>[(7,⟨5,[aA c],26,false⟩),(24,⟨1,K.map aB,3,true⟩)]) (fun m _ _=>m<=K.length) (fun m=>K.length-m) 0 ?_ ?_ ?_ ?_
  ·exact NJ _
  ·(simp only[go_sem,F])
   try rfl
  ·have F:=aA.eq_1
   (simp only[go_sem,F])
   try rfl
  rintro m Z W i;by_cases d:m<K.length
  ·obtain⟨y,f⟩:=gE d;have z:=ip d;have Q:=aD d (by omega);have f2:=bI env l (y:Int) T;have a:=zC (act:=l) f;have H:=zD l (K.take m);rw[NK]at H;have p3:=aD (show ch l (K.take m)<K.length by omega) (by omega);cases M:l.contains (y:Int) with
   | true=>
     rw[M]at f2 a;rw[Mw rfl]at a;have F:=ii Uu f z Q p3;repeat refine ff f2 ?_
     refine⟨m+1,d,?_,?_,by omega⟩
     ·have F:=a;exact qe
     have F:=aA.eq_1;exact qe
   | false=>
     rw[M]at f2 a;rw[Mv Nb,PP]at a;have F:=i0 Uu f z Q;repeat refine ff f2 ?_
     refine⟨m+1,d,?_,?_,by omega⟩
     ·have F:=a;exact qe
     have F:=aA.eq_1;exact qe
  ·obtain rfl:m=K.length:=by omega
   have z:=nl K.length;rw[NS];generalize ch l K=N at*;cases A:cc c l (k:Int) with
   | false=>
     rw[show l.all (cc c l)=false from QE.2 ⟨_,p,by rw[A];simp⟩];cases q:(s.kind==1)<;>cases r:(s.kind==4)<;>cases t:(s.kind==5)<;>by_cases w:(1:Int)< (N:Int)
     all_goals first
      |(exfalso;have n:(1<N)=((1:Int)< (N:Int)):=(by simp;omega);simp[u,q,r,t,n,w]at A;done)
      |skip
     all_goals
      have F:=qs Us Ut o z S q r t w;exact fc
   | true=>
     cases q:(s.kind==1)<;>cases r:(s.kind==4)<;>cases t:(s.kind==5)<;>by_cases w:(1:Int)< (N:Int)
     all_goals first
      |(exfalso;have n:(1<N)=((1:Int)< (N:Int)):=(by simp;omega);simp[u,q,r,t,n,w]at A;done)
      |skip
     all_goals
      have F:=mX Us Ut o z R S q r t w;repeat refine st ?_
      refine⟨j+1,⟨v,fun m y i f=> ?_⟩,?_,?_,by omega⟩
      ·rcases PX.1 i with e|e
       ·exact b m y e f
       rw[e,J]at f;cases f;exact A
      ·exact qe
      have F:=aA.eq_1;exact qe
 rintro V E L b
 rw[show l.all (cc c l)=true from NB.2 fun y f=>by
  obtain⟨m,i⟩:=Ox.1 f
  exact b m y (Mt.1 i).1 i]
 have F:=L;exact fc
end
section
def EP(env:cf)(es:List (List AV))(b:dd es.length 8):b8 prog env 73 [.seq 1 es] (.own 3 1 es):=by
 cases es with
 |nil=>exact dV env [] (by simp)
 | cons d l=>
   have a:dd ((l.length+1)) 8:=by simpa using b
   refine qf func73 call73 ntmps73 results73 ?_;have F:=a;exact fc
def Jj{c:aq}(h:ct c){a:Int}(p:az c a=true){l:List Int}(q:k7 l=true)(m: ∀x∈l,b4 c a x=true):(∀x∈l,fi c x=true)/\(jn c a l).Nodup/\(∀x∈jn c a l,fi c x=true)/\l.length<=32:=by
 have i: ∀x∈l,fi c x=true:=fun x b=>am (m x b);obtain⟨t,s⟩:=gy (c:=c) (d:=a) (l:=l);obtain⟨sp,g,_⟩:=iD p
 have k:fi c a=true:=by
  unfold at_ at g;split at g
  ·rename_i n;have:=(Mt.1 g).1;exact aI.2 ⟨n,by omega⟩
  cases g
 have f: ∀x∈na c l a,b4 c a x=true:=fun x b=>by
  rcases (s x).1 b with b|⟨_,_,_,_,b⟩
  ·exact m x b
  exact b
 have j:a∉na c l a:=fun o=>by
  have:=f _ o;unfold b4 at this;have:=(kF h.toRight 40 a a (Mz.1 this)).2;omega
 refine⟨i,?_,fun x b=> ?_,?_⟩
 ·unfold jn;rw[O8];refine⟨t,by simp,fun x b y r e=> ?_⟩;rw[NP.1 r]at e;rw[e]at b;exact j b
 ·unfold jn at b;rcases N1.1 b with b|b
  ·exact am (f x b)
  rw[NP.1 b];exact k
 have:=jK (nK q) i;have:=h.toRight.Z6;omega
def Ji(env:cf)(c:aq)(h:ct c)(hs:hP c)(d:Int)(hp:az c d=true)(l:List Int)(Y:dd l.length 8):b8 prog env 230 [aG c,I d, .seq 1 (l.map aa)] (B (Fm c d l)):=by
 have p:l.length<=9223372036854775807:=Y.2;have f0:=ya env l p;have f1:=EP env (l.map aa) (by rw[NT];exact Y);have X:=EJ l p;have f:=Ko l;unfold Fm;cases P:l with
 | nil=>
   rw[show k7 []=false from rfl,Nt,Nt,Nt];unfold aG;refine qf func230 call230 ntmps230 results230 ?_;repeat refine nw ?_
   exact px
 |cons d0 l0=>
 rw[<-P];have z:l.isEmpty=false:=by rw[P];rfl
 have u:((l.length:Int)==0)=false:=by rw[P];simp;omega
 rw[z,OW,Np]at f;cases n:jN l with
 | false=>
   rw[n,Nt]at f;rw[n]at f0;rw[<-f,Nt,Nt,Nt];unfold aG;refine qf func230 call230 ntmps230 results230 ?_;have F:=u;exact kb f0
 |true=>
 rw[n,Np]at f;rw[n]at f0;by_cases q:(Lib.compact l).length=l.length
 ·rw[Ny q]at f;have J:(((Lib.compact l).length:Int)==(l.length:Int))=true:=by simp[q]
  rw[<-f,Np];have f2:=fun k:Int=>fQ env c h.toRight d k;have f3:=bP env c;unfold aQ at f2 f3;have W:=fun(k:Int)=>bc env c h k;unfold aG at f3 W |-;refine qf func230 call230 ntmps230 results230 ?_;have F:=u;repeat refine y3 f0 f1 ?_
  refine vX 21 rfl (row:=⟨1,l.map aa,3,true⟩) X (Ng 0) rfl (bz _).symm (by simp only[go_sem];exact iR) (by simp only[go_sem];exact iR) (by simp only[go_sem];exact iR) (by simp only[go_sem];exact iR) iR ?_;rw[bz];have F:=gs u J jM;repeat refine st ?_
  refine lq l.length (by omega) (fun j vs=>[(0, .ref 9 [cy c] 0 0),(1,I d),(2, .seq 1 (l.map aa)),(28, .seq 1 (l.map aa)),(29,I l.length),(30,I j)]) (fun _ _=>[]) (fun j _ _=> ∀m (y:Int),m<j->l[m]? =some y->eC c d y=true) (fun m y s=>absurd s (by omega)) ?_ ?_
  ·rintro j ws N C t q2 g;obtain⟨x,o⟩:=gE C;have T:=My o;have w:=f2 x;have M:=W x;have v:eC c d x=false->(l.all (eC c d))=false:=fun hb=>QE.2 ⟨_,T,by rw[hb];simp⟩;cases r:b4 c d x with
   | false=>
     rw[v (by unfold eC;rw[r];rfl),Nt,Nt];rw[r]at w;have F:=ai o t;exact ns f3 w
   | true=>
     rw[r]at w;rw[Mw (.inr (am r))]at M;cases A:(av c x true).isEmpty with
     | false=>
       rw[v (by unfold eC;rw[r,A];rfl),Nt,Nt]
       have V:(0:Int)< ((av c x true).length:Int):=by
        cases R:av c x true with
        |nil=>rw[R]at A;cases A
        |cons a b=>simp
       generalize av c x true=K at*;have F:=gs o t V;exact D0 f3 w M
     | true=>
       have V: ¬(0:Int)< ((av c x true).length:Int):=by
        rw[List.isEmpty_iff.1 A];simp
       have S:eC c d x=true:=by unfold eC;rw[r,A];rfl
       generalize av c x true=K at*;have F:=i0 o t q2 V;repeat refine Sw f3 w M ?_
       refine⟨j+1,⟨C,fun m y s D=> ?_⟩,?_,?_,by omega⟩
       ·rcases PX.1 s with e|e
        ·exact g m y e D
        rw[e,o]at D;cases D;exact S
       ·exact qe
       exact qe
  rintro ws N t g
  have i:l.all (eC c d)=true:=NB.2 fun y D=>by
   obtain⟨m,s⟩:=Ox.1 D;exact g m y (Mt.1 s).1 s
  have hz: ∀x∈l,b4 c d x=true:=fun x o=>by
   have:=NB.1 i x o;unfold eC at this;rw[Mx]at this;exact this.1
  obtain⟨k1,E,H,k4⟩:=Jj h hp f.symm hz;have f5:=KC env c h.toRight l (by omega) k1 d;have f6:=CE env c h hs (jn c d l) E H;have hgl:=CC h E H;have f7:=EM env c h hs d (py c (jn c d l)) (by omega) fun x o=>((eh h E).1 o).in h H
  have hul:(na c l d).length<=32:=by
   have:=jK E H;unfold jn at this;rw[NA]at this;have:=h.toRight.Z6;omega
  have Z:dd ((na c l d).length+1) 8:=aC (by omega) (by omega);have hA:(jn c d l).map aa=(na c l d).map aa++[[I d]]:=by unfold jn;rw[NC];rfl
  have O:(jn c d l).length=(na c l d).length+1:=by unfold jn;simp
  rw[i,Np];rw[hA]at f6;rw[O];unfold aG at f5 f6 f7;generalize py c (jn c d l)=G at*;generalize na c l d=U at*;by_cases Q:G.length=U.length+1
  ·have L:((G.length:Int)==((U.length+1:Nat):Int))=true:=by simp[Q]
   rw[Ny Q,Np];have F:=gs t Z L;exact D0 f5 f6 f7
  have L:((G.length:Int)==((U.length+1:Nat):Int))=false:=by simp;omega
  rw[Nm Q,Nt];have F:=gs t Z L;exact ns f5 f6
 rw[Nm q]at f;have J:(((Lib.compact l).length:Int)==(l.length:Int))=false:=by simp;omega
 rw[<-f,Nt,Nt,Nt];unfold aG;refine qf func230 call230 ntmps230 results230 ?_;have F:=u;repeat refine y3 f0 f1 ?_
 refine vX 21 rfl (row:=⟨1,l.map aa,3,true⟩) X (Ng 0) rfl (bz _).symm (by simp only[go_sem];exact iR) (by simp only[go_sem];exact iR) (by simp only[go_sem];exact iR) (by simp only[go_sem];exact iR) iR ?_;rw[bz];have F:=gs u J jM;exact fc
end
section
def FT{c:aq}(h:ct c){k:Nat}{s:n4}(g:c.Z9[k]? =some s)(f:s.kind=4\/s.kind=5):az c s.parent=true/\fi c s.parent=true:=by
 have a:cw c s=true:=by
  rcases h.cases g with⟨e,_⟩|⟨e,_⟩|⟨e,_⟩|⟨_,_,e,_⟩
  ·omega
  ·omega
  ·omega
  exact e
 unfold cw at a;cases b:at_ c s.parent with
 |none=>rw[b]at a;cases a
 | some p=>
   rw[b]at a;refine⟨?_,?_⟩
   ·unfold az;rw[b];unfold eQ;simp only at a |-;rw[a];rfl
   unfold at_ at b;split at b
   ·rename_i d;have:=(Mt.1 b).1;exact aI.2 ⟨d,by omega⟩
   cases b
def MX{c:aq}{i:Int}(h:fi c i=false):at_ c i=none:=by
 unfold at_;split
 ·rename_i a;refine NL ?_;have: ¬(0<=i/\i< (c.Z9.length:Int)):=fun q=>by rw[aI.2 q]at h;cases h
  omega
 rfl
def Dc(env:cf)(c:aq)(h:ct c)(v:hP c)(m:eg)(p:dd m.2.length 8):b8 prog env 186 [aG c, .agg (fj m)] (B (pV c m)):=by
 obtain⟨i,l⟩:=m;have p:dd l.length 8:=p;have f0:=ay env c v;unfold pV fj;simp only;cases f:fi c i with
 | false=>
   rw[MX f];simp only;unfold aG at f0 |-;by_cases t:i<0
   ·refine qf func186 call186 ntmps186 results186 ?_;have F:=ai Us t;exact kb f0
   have e:(c.Z9.length:Int)<=i:=by
    have: ¬(0<=i/\i< (c.Z9.length:Int)):=fun q=>by rw[aI.2 q]at f;cases f
    omega
   refine qf func186 call186 ntmps186 results186 ?_;have F:=gs Us t e;exact kb f0
 |true=>
 obtain⟨k,s,rfl,a,r⟩:=dB f;have C:=(Mt.1 a).1;have g: ¬(k:Int)<0:=by omega
 have j: ¬(c.Z9.length:Int)<=(k:Int):=by omega
 have n:((k:Nat):Int)< (c.Z9.length:Int):=by omega
 rw[r];simp only;have u:=h.Z6;by_cases d:s.kind=4
 ·rw[Mw d];have b:(s.kind==4)=true:=by simp[d]
  obtain⟨w,x⟩:=FT h a (.inl d);have f2:=bc env c h s.parent;rw[Mw (.inr x), <-bl]at f2;have A:=bU h.toRight s.parent true;by_cases e:l.length=1
  ·obtain⟨y,rfl⟩: ∃y,l=[y]:=QR.1 e;have f3:=bI env (zL (av c s.parent true)) y (by rw[ar];omega);show b8 _ _ _ _ (B ((zL (av c s.parent true)).contains y));generalize zL (av c s.parent true)=Z at*;unfold aG at f0 f2 |-;refine qf func186 call186 ntmps186 results186 ?_;have F:=m7 Us Ut a g j n b;exact D0 f0 f2 f3
  have z:((l.length:Int)==1)=false:=by simp;omega
  rw[Nm e,Nt];unfold aG at f0 |-;refine qf func186 call186 ntmps186 results186 ?_;have F:=qr Us Ut a g j n b z;exact kb f0
 ·rw[Mv d];have b:(s.kind==4)=false:=by simpa using d
  cases o:(s.kind==5) with
  | false=>
    rw[Nt];unfold aG at f0 |-;refine qf func186 call186 ntmps186 results186 ?_;have F:=qr Us Ut a g j n b o;exact kb f0
  | true=>
    rw[Np];obtain⟨w,x⟩:=FT h a (.inr (by simpa using o));have f2:=Ji env c h v s.parent w l p;unfold aG at f0 f2 |-;generalize Fm c s.parent l=D at*;refine qf func186 call186 ntmps186 results186 ?_;have F:=qr Us Ut a g j n b o;exact ns f0 f2
def KZ(a:Addr)(c:aq)(mem:List eg):AV:=if bm c mem=true then ik else c0 (-1) (bt a)
def Bl{c:aq}{mem:List eg}{j:Nat}(a:j<mem.length)(h:tH c mem j=false):bm c mem=false:=by
 unfold bm;rw[QE];exact⟨j,NZ.2 a,by rw[h];simp⟩
def HT{c:aq}{mem:List eg}(h: ∀j,j<mem.length->tH c mem j=true):bm c mem=true:=by
 unfold bm;rw[NB];exact fun j a=>h j (NZ.1 a)
def qS(env:cf)(l u:Addr)(C:gb env l u)(c:aq)(h:ct c)(D:hP c)(mem:List eg)(H:mem.length<=1000000)(B: ∀m∈mem,dd m.2.length 8):b8 prog env 130 [aG c,go mem] (KZ l c mem):=by
 have v:=Dx env l u C [101,110,116,101,114,46,67,104,101,99,107];unfold KZ;generalize bt l=E at*;unfold aG;refine qf func130 call130 ntmps130 results130 ?_;repeat refine nw ?_
 refine Q' mem.length (by omega) (fun j J=>[(0, .ref 9 [cy c] 0 0),(1,go mem),(11,go mem),(12,I mem.length),(13,I j)]) (fun _ _=>[]) (fun j _ _=> ∀m,m<j->tH c mem m=true) (fun m q=>absurd q (by omega)) ?_ ?_
 ·rintro j G r d k z b;obtain⟨x,g⟩:=gE d;have f1:=Dc env c h D x (B x (My g));have a:tH c mem j=(pV c x&&((j==0)||decide ((mem.getD (j-1) (0,[])).1<x.1))):=by unfold tH;rw[g]
  unfold aG fj at f1;cases o:pV c x with
  | false=>
    rw[o]at f1;rw[Mv (by rw[Bl d (by rw[a,o];rfl)];simp)];have F:=gs UF g k;exact ns f1 v
  | true=>
    rw[o]at f1;rw[o,Np]at a;by_cases A:j=0
    ·have n: ¬(0:Int)< (j:Int):=by omega
     have F:=ii UF g k z n;repeat refine ff f1 ?_
     refine⟨j+1,⟨d,fun m q=> ?_⟩,?_,?_,by omega⟩
     ·obtain rfl:m=j:=by omega
      rw[a,A];rfl
     ·exact qe
     exact qe
    obtain⟨i,rfl⟩: ∃i,j=i+1:=⟨j-1,by omega⟩;obtain⟨p,t⟩: ∃p,mem[i]? =some p:=⟨mem[i]'(by omega),Ms (by omega)⟩;have n:(0:Int)< ((i+1:Nat):Int):=by omega
    have w:IntKind.i64.wrap (((i+1:Nat):Int)-1)=(i:Int):=by rw[Q6 _ (by omega)];omega
    have y:((i:Nat):Int)< (mem.length:Int):=by omega
    have s:mem.getD (i+1-1) (0,[])=p:=by rw[Pu,N3,t];rfl
    rw[s]at a;by_cases f:x.1<=p.1
    ·rw[Mv (by rw[Bl d (by rw[a,Nm (by omega)];rfl)];simp)];have F:=qr UF g t k n w y f;exact ns f1 v
    have F:=qs UF g t k z n w y f;repeat refine ff f1 ?_
    refine⟨i+1+1,⟨d,fun m q=> ?_⟩,?_,?_,by omega⟩
    ·rcases PX.1 q with e|e
     ·exact b m e
     rw[e,a,Ny (by omega)];simp
    ·exact qe
    exact qe
 rintro G r k b;rw[Mw (HT b)];have F:=k;exact fc
end
section
def k8(c:aq)(l:List Int)(d:Int)(j:Nat):List Nat:=(List.range j).filter (rW c l d)
def Ai(c:aq)(l:List Int)(d:Int)(j:Nat):k8 c l d (j+1)=if rW c l d j then k8 c l d j++[j] else k8 c l d j:=by
 unfold k8;rw[PO,N6];cases a:rW c l d j<;>simp[a]
def As(c:aq)(l:List Int)(d:Int)(i:Nat)(m:Nat):Bool:=l.contains (i:Int)||(l.take m).any fun k=>b4 c i k&&b4 c d i
def Aj{c:aq}{l:List Int}{d:Int}{i m:Nat}{y:Int}(h:l[m]? =some y):As c l d i (m+1)=(As c l d i m||(b4 c i y&&b4 c d i)):=by
 unfold As;rw[N4,h,List.any_append];simp only[Qo,QH,Qv,Bool.or_false,Bool.or_assoc]
def Gi(env:cf)(c:aq)(z:Right c)(l:List Int)(K:l.length<=1000000)(d:Int):b8 prog env 173 [.agg (aA c), .seq 1 (l.map aa),I d] (.own 3 1 ((wg c l d).map aB)):=by
 have A:=z.Z6;have t:=fun(k i:Int)=>gf env c z k i;unfold aA at t;refine qf func173 call173 ntmps173 results173 ?_;have F:=aA.eq_1;repeat refine st ?_
 have F:=aA.eq_1;refine lq c.Z9.length (by omega) (fun j o=>[(1, .seq 1 (l.map aa)),(2,I d),(3, .loc 3 (o 3) 0 0),(7, .row 11 (o 11)),(8,I j)]) (fun j _=>[(3,⟨5,[aA c],26,false⟩),(11,⟨1,(k8 c l d j).map aB,3,true⟩)]) (fun j _ e=>e 11=false) rfl ?_ ?_
 ·rintro j N e n w C a;have f0:=dJ env l (j:Int) K;have r:=Ai c l d j;have L:(k8 c l d j).length<=32:=NN (NV ..) (by simp;omega);have J:dd ((k8 c l d j).length+1) 8:=aC (by omega) (by omega);have u:rW c l d j=As c l d j l.length:=by unfold rW As;rw[NS]
  have O:As c l d j 0=l.contains (j:Int):=by unfold As;simp
  generalize H:k8 c l d j=D at*;rw[<-O]at f0;have F:=gs Us w a;repeat refine ff f0 ?_
  have F:=aA.eq_1;refine lq l.length (by omega) (fun m o=>[(1, .seq 1 (l.map aa)),(2,I d),(3, .loc 3 (o 3) 0 0),(7, .row 11 (o 11)),(8,I j),(9,B (As c l d j m)),(10,I m)]) (fun m _=>[(3,⟨5,[aA c],26,false⟩),(11,⟨1,D.map aB,3,true⟩)]) (fun m _ e=>e 11=false) (by simp only[go_sem,a]) ?_ ?_
  ·try clear a
   rintro m M E f h v a;obtain⟨y,s⟩:=gE f;have g:=Aj (c:=c) (d:=d) (i:=j) s;have p:=t (j:Int) y;have G:=t d (j:Int);generalize As c l d j m=b at*;cases b with
   | true=>
     rw[SV]at g;have F:=ii Us s h v a;repeat refine st ?_
     refine⟨m+1,⟨f,by simp only[go_sem,a]⟩,?_,?_,by omega⟩
     ·have F:=g;exact qe
     have F:=aA.eq_1;exact qe
   | false=>
     rw[PF]at g;cases q:b4 c (j:Int) y with
     | false=>
       rw[q]at p;rw[q,Nt]at g;have F:=ii Us s h v a;repeat refine ff p ?_
       refine⟨m+1,⟨f,by simp only[go_sem,a]⟩,?_,?_,by omega⟩
       ·have F:=g;exact qe
       have F:=aA.eq_1;exact qe
     | true=>
       rw[q]at p;rw[q,Np]at g;have F:=ii Us s h v a;repeat refine y3 p G ?_
       refine⟨m+1,⟨f,by simp only[go_sem,a]⟩,?_,?_,by omega⟩
       ·have F:=g;exact qe
       have F:=aA.eq_1;exact qe
  ·try clear a
   rintro M E h a;rw[<-u];cases x:rW c l d j with
   | true=>
     rw[x]at r;have F:=ii Us h C a J;repeat refine st ?_
     refine⟨j+1,⟨n,by simp only[go_sem,a]⟩,?_,?_,by omega⟩
     ·exact qe
     have F:=i0 Us r @NC.{0,0} Uu;exact qe
   | false=>
     rw[x]at r;have F:=i0 Us h C a;repeat refine st ?_
     refine⟨j+1,⟨n,by simp only[go_sem,a]⟩,?_,?_,by omega⟩
     ·exact qe
     have F:=ai Us r;exact qe
 rintro N e w a;rw[show wg c l d=k8 c l d c.Z9.length from rfl];have F:=gs Us w a;exact fc
end
section
def Iv(c:aq)(l:List Int)(d:Int):(wg c l d).length<=c.Z9.length:=NN (NV ..) (by simp)
end
section
end
section
def jc(c:aq)(x:Int):Bool:=match c.Z9[x.toNat]? with
 |some s=>decide (s.parent<0)&&(s.kind==3)
 |none=>false
def nO(c:aq)(act:List Int):Bool:=act.any (jc c)
def K5{c:aq}{act:List Int}{i:Nat}{x:Int}(a:(act.take i).any (jc c)=false)(b:act[i]? =some x)(h:jc c x=false):(act.take (i+1)).any (jc c)=false:=by
 rw[N4,b,List.any_append,a];simp[h]
def Lb{c:aq}{act:List Int}{i:Nat}{x:Int}(a:act[i]? =some x)(h:jc c x=true):nO c act=true:=OG.2 ⟨x,My a,h⟩
def JC(env:cf)(c:aq)(act:List Int)(v:act.length<=1000000)(t: ∀x∈act,0<=x/\x<c.Z9.length):b8 prog env 132 [.agg (aA c),bs act] (B (nO c act)):=by
 refine qf func132 call132 ntmps132 results132 ?_;have F:=aA.eq_1;repeat refine st ?_
 have F:=aA.eq_1;refine lq act.length (by omega) (fun i o=>[(2, .loc 2 (o 2) 0 0),(7,bs act),(8,I act.length),(9,I i)]) (fun _ _=>[(2,⟨5,[aA c],26,false⟩)]) (fun i _ _=>(act.take i).any (jc c)=false) rfl ?_ ?_
 ·rintro i o j a e l f;obtain⟨x,b⟩:=gE a;obtain⟨r,u⟩:=t x (My b);obtain⟨k,rfl⟩:=Int.eq_ofNat_of_zero_le r;have q:k<c.Z9.length:=by omega
  obtain⟨s,g⟩:=gE q;have m:=ip q;have n:jc c k=(decide (s.parent<0)&&(s.kind==3)):=by unfold jc;rw[OP,g]
  by_cases d:s.parent<0
  ·by_cases h:s.kind=3
   ·rw[Lb b (by rw[n,Ny d,h];rfl)];have F:=mX Us Ut UB e l m b g d h;exact fc
   have p:(s.kind==3)=false:=by simpa using h
   have F:=mX Us Ut UB e l m b g d p;repeat refine st ?_
   refine⟨i+1,⟨a,K5 f b (by rw[n,p,Oc])⟩,?_,?_,by omega⟩
   ·exact qe
   have F:=aA.eq_1;exact qe
  have F:=qs Us Ut UB e l m b g d;repeat refine st ?_
  refine⟨i+1,⟨a,K5 f b (by rw[n,Nm d,Nt])⟩,?_,?_,by omega⟩
  ·exact qe
  have F:=aA.eq_1;exact qe
 rintro o j e f;rw[show nO c act=false from by rwa [Nu (by omega)]at f];have F:=e;exact fc
def JL(env:cf)(l:List (List UInt8×Int))(G:l.length<=9223372036854775807)(D: ∀t∈l,t.1.length<=9223372036854775807):b8 prog env 131 [.seq 2 (l.map cI)] (B (eG l)):=by
 refine qf func131 call131 ntmps131 results131 ?_;repeat refine nw ?_
 refine Q' l.length (by omega) (fun i _=>[(0, .seq 2 (l.map cI)),(5, .seq 2 (l.map cI)),(6,I l.length),(7,I i)]) (fun _ _=>[]) (fun i _ _=> ∀j,j<i->wU l j=true) (fun j C=>by omega) ?_ ?_
 ·rintro i E r c d f q;obtain⟨x,b⟩:=gE c;have f1:=eB env x.1 (D x (MI b));have a:wU l i=false->eG l=false:=fun h=>by rw[eG,EY c h];rfl
  cases k:bp x.1
  ·rw[a (by unfold wU;rw[ma b,k];rfl)];rw[k]at f1;have F:=i0 d f b UD;exact kb f1
  rw[k]at f1;by_cases m:x.2<0
  ·rw[a (by unfold wU I7;rw[ma b,Nm (by omega),Oc];rfl)];have F:=ii d f b UD m;exact kb f1
  by_cases o:1099511627776<x.2
  ·rw[a (by unfold wU I7;rw[ma b,Nm (by omega),Oc];rfl)];have F:=kv d f b UD m o;exact kb f1
  have u:I7 x.2=true:=Ny ⟨by omega,by omega⟩;by_cases z:i=0
  ·have p: ¬(0:Int)< (i:Int):=by omega
   have F:=m7 d f b UD m o p;repeat refine ff f1 ?_
   refine⟨i+1,⟨c,Fz q ?_⟩,?_,?_,by omega⟩
   ·unfold wU;rw[ma b,k,u,Ny z];rfl
   ·exact qe
   exact qe
  have p:(0:Int)< (i:Int):=by omega
  have v:IntKind.i64.wrap ((i:Int)-1)=((i-1:Nat):Int):=Mo i 1 (by omega) (by omega);have w:((i-1:Nat):Int)< (l.length:Int):=by omega
  obtain⟨y,s⟩: ∃y,l[i-1]? =some y:=⟨l[i-1],Ms (by omega)⟩;have A:wU l i= !(Op.bytesLess x.1 y.1||x.1==y.1):=by unfold wU;rw[ma b,ma s,k,u,Nm z,xG];rfl
  by_cases g:(Op.bytesLess x.1 y.1||x.1==y.1)=true
  ·rw[a (by rw[A,g];rfl)];have F:=o' d f b UD m o p v w s g;exact kb f1
  have g:(Op.bytesLess x.1 y.1||x.1==y.1)=false:=by simpa using g
  have F:=o' d f b UD m o p v w s g;repeat refine ff f1 ?_
  exact qn (i+1) ⟨c,Fz q (by rw[A,g];rfl)⟩
 rintro E r d q
 have e:eG l=decide ((l.length:Int)<=8):=by
  rw[eG,yI (n:=l.length) fun j C=>q j (by omega),Np];exact decide_eq_decide.2 (by omega)
 rw[e];have F:=d;exact fc
def HR(env:cf)(a b:Addr)(d:gb env a b)(s:List UInt8):b8 prog env 65 [Sg s] (c0 (-1) (bt a)):=by
 have c:=gg d.e1;have f1:=b9 env s a;refine qf func65 call65 ntmps65 results65 ?_;have F:=c;exact kb f1
structure Sp(r:Rc):Prop where
 Z0:r.Z0.length<=1000000
 vars:r.vars.length<=1000000
 mem:r.mem.length<=1000000
 timers:r.timers.length<=9223372036854775807
def wK(l:List Int):Bool:=l.all aJ
def cq(c:aq)(r:Rc):Bool:=tU c r.Z0&&bm c r.mem&&(r.vars.length==c.vars.length)&&eG r.timers&&(r.over==nO c r.Z0)&&wK r.vars
def tZ(a:Addr)(c:aq)(r:Rc):AV:=if cq c r=true then ik else c0 (-1) (bt a)
def Kc{c:aq}{act:List Int}(h:tU c act=true): ∀x∈act,0<=x/\x<c.Z9.length:=fun x g=>by
 obtain⟨i,e⟩:=Ox.1 g;have d:=(zp.1 h).1 i (Mt.1 e).1;rw[zF e,Mx]at d;have a:=d.2;unfold vn at_ at a;by_cases b:0<=x
 ·rw[Mw b]at a;cases f:c.Z9[x.toNat]? with
  |none=>rw[f]at a;cases a
  |some s=>have:=(Mt.1 f).1;omega
 rw[Mv b]at a;cases a
end
section
def LN{l:List Int}{i:Nat}{x:Int}(a:(l.take i).all aJ=true)(b:l[i]? =some x)(h:aJ x=true):(l.take (i+1)).all aJ=true:=by
 rw[N4,b,QT,a];simp[h]
def LO{l:List Int}{i:Nat}{x:Int}(a:l[i]? =some x)(h:aJ x=false):wK l=false:=by
 unfold wK;rw[QE];exact⟨x,My a,by rw[h];exact Nb⟩
def Ap(env:cf)(d q:Addr)(y:gb env d q)(c:aq)(h:ct c)(A:hP c)(r:Rc)(o:Sp r)(B: ∀t∈r.timers,t.1.length<=9223372036854775807)(b:b8 prog env 130 [aG c,go r.mem] (KZ d c r.mem)):b8 prog env 71 [aG c, .agg (Du r)] (tZ d c r):=by
 have f1:=ay env c A;have f2:=cj env d q y c h A r.Z0 o.Z0;have f4:=JL env r.timers o.timers B;have f6:=HR env d q y [109,105,99,114,111,46,67,104,101,99,107];have a:cq c r=false->tZ d c r=c0 (-1) (bt d):=fun h=>by unfold tZ;rw[h];rfl
 unfold wC at f2;unfold KZ at b;unfold aA at f1;unfold aG at f1 f2 b |-;cases e:tU c r.Z0
 ·rw[a (by unfold cq;rw[e];rfl)];rw[e,Mv Nb]at f2;refine qf func71 call71 ntmps71 results71 ?_;have F:=Du.eq_1;exact D0 f1 f2 f6
 rw[e,Mw rfl]at f2;cases g:bm c r.mem
 ·rw[a (by unfold cq;rw[g,Oc];rfl)];rw[g,Mv Nb]at b;refine qf func71 call71 ntmps71 results71 ?_;have F:=Du.eq_1;exact TV f1 f2 b f6
 rw[g,Mw rfl]at b;by_cases s:r.vars.length=c.vars.length
 case neg=>
  rw[a (by unfold cq;rw[show (r.vars.length==c.vars.length)=false by simpa using s,Oc];rfl)];have f:((r.vars.length:Int) != (c.vars.length:Int))=true:=by simp;omega
  refine qf func71 call71 ntmps71 results71 ?_;have F:=ai UY f;exact TV f1 f2 b f6
 have f:((r.vars.length:Int) != (c.vars.length:Int))=false:=by simp[s]
 cases j:eG r.timers
 ·rw[a (by unfold cq;rw[j,Oc];rfl)];rw[j]at f4;refine qf func71 call71 ntmps71 results71 ?_;have F:=ai UY f;exact Uc f1 f2 b f4 f6
 rw[j]at f4;have f5:=JC env c r.Z0 o.Z0 (Kc e);unfold aA at f5;cases k:(r.over==nO c r.Z0)
 ·rw[a (by unfold cq;rw[k,Oc];rfl)];refine qf func71 call71 ntmps71 results71 ?_;have F:=gs UY f k;exact TL f1 f2 b f4 f5 f6
 have z:cq c r=wK r.vars:=by unfold cq;rw[e,g,j,k,show (r.vars.length==c.vars.length)=true by simpa using s];rfl
 have C:=o.vars;refine qf func71 call71 ntmps71 results71 ?_;have F:=gs UY f k;repeat refine Ur f1 f2 b f4 f5 f6 ?_
 try clear f1 f2 b f4 f5 e g f j k
 refine lq r.vars.length (by omega) (fun i _=>[(52,bs r.vars),(53,I r.vars.length),(54,I i)]) (fun _ _=>[]) (fun i _ _=>(r.vars.take i).all aJ=true) rfl ?_ ?_
 ·rintro i D u l n w v;obtain⟨x,p⟩:=gE l;have f7:=dG env x;cases m:aJ x
  ·rw[m]at f7;rw[a (by rw[z];exact LO p m)];have F:=i0 UB n w p;exact ns f6 f7
  rw[m]at f7;have F:=i0 UB n w p;repeat refine y3 f6 f7 ?_
  exact qn (i+1) ⟨l,LN v p m⟩
 rintro D u n v;rw[show tZ d c r=ik from by unfold tZ;rw[Mw (by rw[z];unfold wK;rwa [Nu (by omega)]at v)]];have F:=n;exact fc
def tP(env:cf)(a b:Addr)(d:gb env a b)(c:aq)(h:ct c)(f:hP c)(r:Rc)(e:Sp r)(i: ∀t∈r.timers,t.1.length<=9223372036854775807)(g: ∀m∈r.mem,dd m.2.length 8):b8 prog env 71 [aG c, .agg (Du r)] (tZ a c r):=
 Ap env a b d c h f r e i (qS env a b d c h f r.mem e.mem g)
def AJ(env:cf)(s:List UInt8):b8 prog env 29 [Sg s,ik] ik:=by
 refine qf func29 call29 ntmps29 results29 ?_;repeat refine nw ?_
 exact px
end
section
def Bk(b:Bool):List AV:=[B b]
def dv(w:rx):List AV:=[bs w.vars,I w.data, .seq 1 (w.act.map Bk)]
def UM:=@dv.eq_1
def l6{n:Int}(h:aJ n=true):IntKind.i64.wrap n=n:=by
 rw[cA]at h;exact aX (by omega) (by omega)
def gQ{n:Int}(h:Sx n):IntKind.i64.wrap n=n:=by
 unfold Sx at h;exact aX (by omega) (by omega)
def jV(env:cf)(b:Bool):b8 prog env 312 [B b] (I (PA b)):=by
 cases b
 ·show b8 _ _ _ _ (I 0);refine qf func312 call312 ntmps312 results312 ?_;repeat refine nw ?_
  exact px
 show b8 _ _ _ _ (I 1);refine qf func312 call312 ntmps312 results312 ?_;repeat refine nw ?_
 exact px
def wR(env:cf)(k a:Int)(d:k=5\/k=6)(c:aJ a=true):b8 prog env 304 [I k,I a] (.tuple [I (RW k a),B true]):=by
 have f0:=jV env (a==0);rcases d with rfl|rfl
 ·have b:IntKind.i64.wrap (0-a)=RW 5 a:=l6 (Ew 5 c);refine qf func304 call304 ntmps304 results304 ?_;have F:=b;exact kb f0
 have b:PA (a==0)=RW 6 a:=rfl;refine qf func304 call304 ntmps304 results304 ?_;have F:=b;exact kb f0
def Iw(env:cf)(k a b:Int)(e:k=8\/k=9)(g:aJ a=true):b8 prog env 313 [I k,I a,I b] (.tuple [I (kX k a b).1,B (kX k a b).2]):=by
 by_cases c:b=0
 ·subst c;have d:kX k a 0=(0,false):=by rcases e with rfl|rfl<;>rfl
  rw[d];refine qf func313 call313 ntmps313 results313 ?_;repeat refine nw ?_
  exact px
 have f:(b==0)=false:=by simpa using c
 rcases e with rfl|rfl
 ·have d:kX 8 a b=(a.tdiv b,true):=by simp[kX,c]
  have h:=l6 (l7 (b:=b) g);rw[d];refine qf func313 call313 ntmps313 results313 ?_;have F:=gs f h c;exact fc
 have d:kX 9 a b=(a.tmod b,true):=by simp[kX,c]
 rw[d];refine qf func313 call313 ntmps313 results313 ?_;have F:=ai f c;exact fc
def BA(env:cf)(k a b:Int)(c:12<=k/\k<=17):b8 prog env 314 [I k,I a,I b] (B (F' k a b)):=by
 obtain rfl|rfl|rfl|rfl|rfl|rfl:k=12\/k=13\/k=14\/k=15\/k=16\/k=17:=by omega
 all_goals (refine lH func314 rfl call314 (by rw [ntmps314]; simp) ?_
            rw[ntmps314,results314])
 all_goals have F:=F'.eq_1
 all_goals (repeat refine st ?_)
 all_goals ((refine aM ?_;show (ag _ _ _).run _=some _;simp only[go_sem,F]))
def uR(env:cf)(k a b:Int)(p:7<=k/\k<=19)(n:aJ a=true)(o:aJ b=true):b8 prog env 305 [I k,I a,I b] (.tuple [I (kX k a b).1,B (kX k a b).2]):=by
 have c:=(uS k n o).1;by_cases l:k=7
 ·subst l;have f0:=dG env (a*b);have e:IntKind.i64.wrap (a*b)=a*b:=gQ c;show b8 _ _ _ _ (.tuple [I (a*b),B (aJ (a*b))]);refine qf func305 call305 ntmps305 results305 ?_;have F:=e;exact kb f0
 by_cases m:k=8\/k=9
 ·have f0:=Iw env k a b m n;generalize kX k a b=R at*;rcases m with rfl|rfl
  ·refine qf func305 call305 ntmps305 results305 ?_;repeat refine jG f0 ?_
   exact px
  refine qf func305 call305 ntmps305 results305 ?_;repeat refine jG f0 ?_
  exact px
 by_cases f:k=10
 ·subst f;have f0:=dG env (a+b);have e:IntKind.i64.wrap (a+b)=a+b:=gQ c;show b8 _ _ _ _ (.tuple [I (a+b),B (aJ (a+b))]);refine qf func305 call305 ntmps305 results305 ?_;have F:=e;exact kb f0
 by_cases g:k=11
 ·subst g;have f0:=dG env (a-b);have e:IntKind.i64.wrap (a-b)=a-b:=gQ c;show b8 _ _ _ _ (.tuple [I (a-b),B (aJ (a-b))]);refine qf func305 call305 ntmps305 results305 ?_;have F:=e;exact kb f0
 have j: ∀t:Bool,b8 prog env 72 [I (PA t)] (B true):=fun t=>by
  have:=dG env (PA t);rwa [gW]at this
 by_cases h:k=18
 ·subst h;show b8 _ _ _ _ (.tuple [I (PA (a != 0&&b != 0)),B true]);have f0:=jV env (a != 0&&b != 0);have f1:=j (a != 0&&b != 0);cases d:(a != 0)
  ·rw[d]at f0 f1;refine qf func305 call305 ntmps305 results305 ?_;have F:=d;exact ns f0 f1
  rw[d]at f0 f1;refine qf func305 call305 ntmps305 results305 ?_;have F:=d;exact ns f0 f1
 by_cases i:k=19
 ·subst i;show b8 _ _ _ _ (.tuple [I (PA (a != 0||b != 0)),B true]);have f0:=jV env (a != 0||b != 0);have f1:=j (a != 0||b != 0);cases d:(a != 0)
  ·rw[d]at f0 f1;refine qf func305 call305 ntmps305 results305 ?_;have F:=d;exact ns f0 f1
  rw[d]at f0 f1;refine qf func305 call305 ntmps305 results305 ?_;have F:=d;exact ns f0 f1
 have e:kX k a b=(PA (F' k a b),true):=by
  unfold kX;rw[Mv l,Mv (by omega),Mv (by omega),Mv f,Mv g,Mv h,Mv i]
 rw[e];have f0:=BA env k a b (by omega);have f1:=jV env (F' k a b);have f2:=j (F' k a b);generalize F' k a b=R at*;obtain rfl|rfl|rfl|rfl|rfl|rfl:k=12\/k=13\/k=14\/k=15\/k=16\/k=17:=by omega
 all_goals (refine lH func305 rfl call305 (by rw [ntmps305]; simp) ?_
            rw[ntmps305,results305])
 all_goals (repeat refine Ci f0 f1 f2 ?_)
 all_goals ((refine aM ?_;show (ag _ _ _).run _=some _;simp only[go_sem]))
def Bs(env:cf)(w:rx)(o:mu)(c:1<=o.kind/\o.kind<=4)(h:nP o w.vars.length w.act.length=true):b8 prog env 303 [.agg (bW o), .agg (dv w)] (I (m5 w o)):=by
 obtain⟨k,n⟩:=o;simp only at c;unfold m5;unfold nP at h;simp only at h |-;obtain rfl|rfl|rfl|rfl:k=1\/k=2\/k=3\/k=4:=by omega
 ·show b8 _ _ _ _ (I n);refine qf func303 call303 ntmps303 results303 ?_;have F:=ai UA UM;exact fc
 ·have h:0<=n/\n<w.vars.length:=by simpa using h
  obtain⟨m,rfl⟩:=fg h.1;have a:(m:Int)< (w.vars.length:Int):=h.2;have b:w.vars[m]? =some (w.vars.getD m 0):=by rw[N3,Ms (by omega)];rfl
  show b8 _ _ _ _ (I (w.vars.getD ((m:Int).toNat) 0));rw[OP];refine qf func303 call303 ntmps303 results303 ?_;have F:=ii UA UM UB a b;exact fc
 ·show b8 _ _ _ _ (I w.data);refine qf func303 call303 ntmps303 results303 ?_;have F:=ai UA UM;exact fc
 have h:0<=n/\n<w.act.length:=by simpa using h
 obtain⟨m,rfl⟩:=fg h.1;have a:(m:Int)< (w.act.length:Int):=h.2;have b:w.act[m]? =some (w.act.getD m false):=by rw[N3,Ms (by omega)];rfl
 show b8 _ _ _ _ (I (PA (w.act.getD ((m:Int).toNat) false)));rw[OP];have f0:=jV env (w.act.getD m false);generalize w.act.getD m false=t at*;refine qf func303 call303 ntmps303 results303 ?_;have F:=ii UA UM Bk.eq_1 a b;exact kb f0
end
end Go.Proofs.YtfhkmjbjafeckaaGreatDoor
