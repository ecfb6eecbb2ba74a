/- The innermost ones and their names. -/
import Derived.Test.YtfcdkaolcdglmaaGreatDoorP19
import Derived.Test.YtfcdkaolcdglmaaGreatDoorP7
set_option maxRecDepth 100000
set_option maxHeartbeats 16000000
set_option linter.unusedSimpArgs false
set_option linter.defProp false
namespace Go.Proofs.YtfcdkaolcdglmaaGreatDoor
open Go.Proofs.Tryz
open Go.RowKit
section
def sx(env:b7)(x:Int):cy prog env 231 [I x] (B false):=by
 have a:(x==x)=true:=by simp
 refine qf func231 call231 ntmps231 results231 ?_;have F:=ai a jF;exact fl
def H0(env:b7)(x y:Int):cy prog env 208 [I x,I y] (B (decide (x<y))):=by
 have f0:=sx env x;have f1:=sx env y;by_cases h:x<y
 ·rw[Ou h];refine qf func208 call208 ntmps208 results208 ?_;have F:=h;exact po f0 f1
 rw[Oi h];refine qf func208 call208 ntmps208 results208 ?_;have F:=h;exact po f0 f1
def zm{l:List Int}{n:Nat}(h: ∀j,n<=j->j<l.length->jL l j=true)(c:n<=1):jH l=true:=by
 unfold jH;rw[OP];intro j a;have a:=Oh.1 a;by_cases b:n<=j
 ·exact h j b a
 obtain rfl:j=0:=by omega
 rfl
def C9{l:List Int}{j:Nat}(a:j<l.length)(h:jL l j=false):jH l=false:=by
 unfold jH;rw[RP];exact⟨j,Oh.2 a,by rw[h];simp⟩
def xg(env:b7)(l:List Int)(G:l.length<=9223372036854775807):cy prog env 186 [.seq 1 (l.map aa)] (B (jH l)):=by
 have x:IntKind.i64.wrap ((l.length:Int)-1)=(l.length:Int)-1:=Qz _ (by omega);refine qf func186 call186 ntmps186 results186 ?_;have F:=x;repeat refine st ?_
 refine aN (D:=Nat) (fun j H=>[(0, .seq 1 (l.map aa)),(3,I ((l.length:Int)-1-(j:Int)))]) (fun _ _=>[]) (fun j _ _=>j<=l.length/\ ∀m,l.length-j<=m->m<l.length->jL l m=true) (fun j=>l.length-j) 0 ?_ ?_ ?_ ?_
 ·exact⟨O6 _,fun m c d=>absurd d (by omega)⟩
 ·have F:=Int.sub_zero
  (simp only[go_sem,F])
  try rfl
 ·(simp only[go_sem,Int.sub_zero])
  try rfl
 rintro j J t ⟨E,a⟩;by_cases e:0< (l.length:Int)-1-(j:Int)
 ·have v: ∃i:Nat,(l.length:Int)-1-(j:Int)=(i:Int)/\i+j+1=l.length:=⟨l.length-1-j,by omega,by omega⟩;obtain⟨i,s,y⟩:=v;have c:i<l.length:=by omega
  have d:i-1<l.length:=by omega
  have q:l[i]? =some (l.getD i 0):=by rw[Oe,OE c];rfl
  have r:l[i-1]? =some (l.getD (i-1) 0):=by rw[Oe,OE d];rfl
  have f:IntKind.i64.wrap ((i:Int)-1)=((i-1:Nat):Int):=by rw[Qz _ (by omega)];omega
  have k:(0:Int)< (i:Int):=by omega
  have o:(i:Int)< (l.length:Int):=by omega
  have p:((i-1:Nat):Int)< (l.length:Int):=by omega
  have h:jL l i=decide (¬l.getD i 0<l.getD (i-1) 0):=by
   unfold jL;rw[show (i==0)=false by simp;omega,Qq]
  rw[s];generalize A:l.getD i 0=X at*;generalize C:l.getD (i-1) 0=Y at*;have f0:=H0 env X Y;by_cases b:X<Y
  ·rw[Ou b]at f0;rw[C9 c (by rw[h,Oi (by simpa using b)])];have F:=pf k o p q r f;exact nb f0
  rw[Oi b]at f0;have g:(l.length:Int)-1-((j+1:Nat):Int)=((i-1:Nat):Int):=by omega
  have F:=pf k o p q r f;repeat refine g8 f0 ?_
  refine⟨j+1,⟨by omega,fun m z u=> ?_⟩,?_,?_,by omega⟩
  ·by_cases w:m=i
   ·rw[w,h,Ou b]
   exact a m (by omega) u
  ·have F:=g;exact qe
  ·(simp only[go_sem,g])
 rw[zm (n:=l.length-j) a (by omega)];have F:=e;exact fl
def Do(env:b7)(c:aq)(h:cD c)(U:h9 c)(g:Int)(l:List Int)(T:l.length<=1000000)(P: ∀x∈l,fe c x=true):cy prog env 190 [aH c,I g, .seq 1 (l.map aa)] (B (l.all (cV c l))):=by
 have f0:=ap env c U;unfold aH at f0 |-;refine qf func190 call190 ntmps190 results190 ?_;have F:=aA.eq_1;repeat refine g8 f0 ?_
 have F:=aA.eq_1;refine lq l.length (by omega) (fun j C=>[(0, .ref 9 [aK c] 0 0),(2, .seq 1 (l.map aa)),(7, .loc 7 (C 7) 0 0),(16, .seq 1 (l.map aa)),(17,I l.length),(18,I j)]) (fun _ _=>[(7,⟨5,[aA c],26,false⟩)]) (fun j _ _=> ∀m (y:Int),m<j->l[m]? =some y->cV c l y=true) (fun m y i=>absurd i (by omega)) ?_ ?_
 ·rintro j V E v L R b;obtain⟨x,J⟩:=gE v;have p:=OM J;obtain⟨k,s,rfl,o,G⟩:=fB (P x p);have Y:=(OG.1 o).1;have S:((k:Nat):Int)< (c.Z9.length:Int):=by omega
  have f1:=bX env c h k;rw[OL (.inr (P _ p))]at f1;have u:cV c l (k:Int)= !(((s.kind==1)&&decide (1<cR l (aw c k true)))||((s.kind==4)||(s.kind==5))):=by unfold cV;rw[G]
  have X:=d7 h.toRight k true;have O:=h.Z6;unfold aH at f1;generalize aw c (k:Int) true=K at*;have F:=jw J L R;repeat refine g8 f1 ?_
  refine aN (D:=Nat) (fun m C=>[(0, .ref 9 [aK c] 0 0),(2, .seq 1 (l.map aa)),(7, .loc 7 (C 7) 0 0),(9,I k),(10,I (cR l (K.take m):Nat)),(16, .seq 1 (l.map aa)),(17,I l.length),(18,I j),(24, .row 24 (C 24)),(25,I K.length),(26,I m)]) (fun _ _=>[(7,⟨5,[aA c],26,false⟩),(24,⟨1,K.map aB,3,true⟩)]) (fun m _ _=>m<=K.length) (fun m=>K.length-m) 0 ?_ ?_ ?_ ?_
  ·exact O6 _
  ·(simp only[go_sem,F])
   try rfl
  ·have F:=aA.eq_1
   (simp only[go_sem,F])
   try rfl
  rintro m Z W i;by_cases d:m<K.length
  ·obtain⟨y,f⟩:=gE d;have z:=mc d;have Q:=aD d (by omega);have f2:=bG env l (y:Int) T;have a:=Ex (act:=l) f;have H:=Ey l (K.take m);rw[OZ]at H;have p3:=aD (show cR l (K.take m)<K.length by omega) (by omega);cases M:l.contains (y:Int) with
   | true=>
     rw[M]at f2 a;rw[OL rfl]at a;have F:=ld WJ f z Q p3;repeat refine g8 f2 ?_
     refine⟨m+1,d,?_,?_,by omega⟩
     ·have F:=a;exact qe
     have F:=aA.eq_1;exact qe
   | false=>
     rw[M]at f2 a;rw[OK P3,QT]at a;have F:=mX WJ f z Q;repeat refine g8 f2 ?_
     refine⟨m+1,d,?_,?_,by omega⟩
     ·have F:=a;exact qe
     have F:=aA.eq_1;exact qe
  ·obtain rfl:m=K.length:=by omega
   have z:=nl K.length;rw[Ob];generalize cR l K=N at*;cases A:cV c l (k:Int) with
   | false=>
     rw[show l.all (cV c l)=false from RP.2 ⟨_,p,by rw[A];simp⟩];cases q:(s.kind==1)<;>cases r:(s.kind==4)<;>cases t:(s.kind==5)<;>by_cases w:(1:Int)< (N:Int)
     all_goals first
      |(exfalso;have n:(1<N)=((1:Int)< (N:Int)):=(by simp;omega);simp[u,q,r,t,n,w]at A;done)
      |skip
     all_goals
      have F:=y' WH WI o z S q r t w;exact fl
   | true=>
     cases q:(s.kind==1)<;>cases r:(s.kind==4)<;>cases t:(s.kind==5)<;>by_cases w:(1:Int)< (N:Int)
     all_goals first
      |(exfalso;have n:(1<N)=((1:Int)< (N:Int)):=(by simp;omega);simp[u,q,r,t,n,w]at A;done)
      |skip
     all_goals
      have F:=zs WH WI o z R S q r t w;repeat refine st ?_
      refine⟨j+1,⟨v,fun m y i f=> ?_⟩,?_,?_,by omega⟩
      ·rcases Qb.1 i with e|e
       ·exact b m y e f
       rw[e,J]at f;cases f;exact A
      ·exact qe
      have F:=aA.eq_1;exact qe
 rintro V E L b
 rw[show l.all (cV c l)=true from OP.2 fun y f=>by
  obtain⟨m,i⟩:=QB.1 f
  exact b m y (OG.1 i).1 i]
 have F:=L;exact fl
end
section
def Dr(env:b7)(es:List (List AV))(b:ek es.length 8):cy prog env 114 [.seq 1 es] (.own 3 1 es):=by
 cases es with
 |nil=>exact dU env [] (by simp)
 | cons d l=>
   have a:ek ((l.length+1)) 8:=by simpa using b
   refine qf func114 call114 ntmps114 results114 ?_;have F:=a;exact fl
def KM{c:aq}(h:cD c){a:Int}(p:ar c a=true){l:List Int}(q:jR l=true)(m: ∀x∈l,bx c a x=true):(∀x∈l,fe c x=true)/\(g7 c a l).Nodup/\(∀x∈g7 c a l,fe c x=true)/\l.length<=32:=by
 have i: ∀x∈l,fe c x=true:=fun x b=>ah (m x b);obtain⟨t,s⟩:=iy (c:=c) (d:=a) (l:=l);obtain⟨sp,g,_⟩:=gh p
 have k:fe c a=true:=by
  unfold at_ at g;split at g
  ·rename_i n;have:=(OG.1 g).1;exact aJ.2 ⟨n,by omega⟩
  cases g
 have f: ∀x∈n7 c l a,bx c a x=true:=fun x b=>by
  rcases (s x).1 b with b|⟨_,_,_,_,b⟩
  ·exact m x b
  exact b
 have j:a∉n7 c l a:=fun o=>by
  have:=f _ o;unfold bx at this;have:=(kZ h.toRight 40 a a (OQ.1 this)).2;omega
 refine⟨i,?_,fun x b=> ?_,?_⟩
 ·unfold g7;rw[QJ];refine⟨t,by simp,fun x b y r e=> ?_⟩;rw[O2.1 r]at e;rw[e]at b;exact j b
 ·unfold g7 at b;rcases Of.1 b with b|b
  ·exact ah (f x b)
  rw[O2.1 b];exact k
 have:=jE (mq q) i;have:=h.toRight.Z6;omega
def KJ(env:b7)(c:aq)(h:cD c)(hs:h9 c)(d:Int)(hp:ar c d=true)(l:List Int)(Y:ek l.length 8):cy prog env 161 [aH c,I d, .seq 1 (l.map aa)] (B (O' c d l)):=by
 have p:l.length<=9223372036854775807:=Y.2;have f0:=xg env l p;have f1:=Dr env (l.map aa) (by rw[O4];exact Y);have X:=Dm l p;have f:=Le l;unfold O';cases P:l with
 | nil=>
   rw[show jR []=false from rfl,PU,PU,PU];unfold aH;refine qf func161 call161 ntmps161 results161 ?_;repeat refine sm ?_
   exact L0
 |cons d0 l0=>
 rw[<-P];have z:l.isEmpty=false:=by rw[P];rfl
 have u:((l.length:Int)==0)=false:=by rw[P];simp;omega
 rw[z,Pb,PQ]at f;cases n:jH l with
 | false=>
   rw[n,PU]at f;rw[n]at f0;rw[<-f,PU,PU,PU];unfold aH;refine qf func161 call161 ntmps161 results161 ?_;have F:=u;exact nb f0
 |true=>
 rw[n,PQ]at f;rw[n]at f0;by_cases q:(Lib.compact l).length=l.length
 ·rw[Ou q]at f;have J:(((Lib.compact l).length:Int)==(l.length:Int))=true:=by simp[q]
  rw[<-f,PQ];have f2:=fun k:Int=>fP env c h.toRight d k;have f3:=bJ env c;unfold aS at f2 f3;have W:=fun(k:Int)=>bX env c h k;unfold aH at f3 W |-;refine qf func161 call161 ntmps161 results161 ?_;have F:=u;repeat refine PJ f0 f1 ?_
  refine uj 21 rfl (row:=⟨1,l.map aa,3,true⟩) X (PD 0) rfl (bl _).symm (by simp only[go_sem];exact iR) (by simp only[go_sem];exact iR) (by simp only[go_sem];exact iR) (by simp only[go_sem];exact iR) iR ?_;rw[bl];have F:=jw u J jF;repeat refine st ?_
  refine lq l.length (by omega) (fun j vs=>[(0, .ref 9 [aK c] 0 0),(1,I d),(2, .seq 1 (l.map aa)),(28, .seq 1 (l.map aa)),(29,I l.length),(30,I j)]) (fun _ _=>[]) (fun j _ _=> ∀m (y:Int),m<j->l[m]? =some y->dp c d y=true) (fun m y s=>absurd s (by omega)) ?_ ?_
  ·rintro j ws N C t q2 g;obtain⟨x,o⟩:=gE C;have T:=OM o;have w:=f2 x;have M:=W x;have v:dp c d x=false->(l.all (dp c d))=false:=fun hb=>RP.2 ⟨_,T,by rw[hb];simp⟩;cases r:bx c d x with
   | false=>
     rw[v (by unfold dp;rw[r];rfl),PU,PU];rw[r]at w;have F:=ai o t;exact po f3 w
   | true=>
     rw[r]at w;rw[OL (.inr (ah r))]at M;cases A:(aw c x true).isEmpty with
     | false=>
       rw[v (by unfold dp;rw[r,A];rfl),PU,PU]
       have V:(0:Int)< ((aw c x true).length:Int):=by
        cases R:aw c x true with
        |nil=>rw[R]at A;cases A
        |cons a b=>simp
       generalize aw c x true=K at*;have F:=jw o t V;exact UR f3 w M
     | true=>
       have V: ¬(0:Int)< ((aw c x true).length:Int):=by
        rw[List.isEmpty_iff.1 A];simp
       have S:dp c d x=true:=by unfold dp;rw[r,A];rfl
       generalize aw c x true=K at*;have F:=mX o t q2 V;repeat refine V6 f3 w M ?_
       refine⟨j+1,⟨C,fun m y s D=> ?_⟩,?_,?_,by omega⟩
       ·rcases Qb.1 s with e|e
        ·exact g m y e D
        rw[e,o]at D;cases D;exact S
       ·exact qe
       exact qe
  rintro ws N t g
  have i:l.all (dp c d)=true:=OP.2 fun y D=>by
   obtain⟨m,s⟩:=QB.1 D;exact g m y (OG.1 s).1 s
  have hz: ∀x∈l,bx c d x=true:=fun x o=>by
   have:=OP.1 i x o;unfold dp at this;rw[OJ]at this;exact this.1
  obtain⟨k1,E,H,k4⟩:=KM h hp f.symm hz;have f5:=Ke env c h.toRight l (by omega) k1 d;have f6:=Be env c h hs (g7 c d l) E H;have hgl:=Bd h E H;have f7:=Do env c h hs d (rn c (g7 c d l)) (by omega) fun x o=>((gJ h E).1 o).in h H
  have hul:(n7 c l d).length<=32:=by
   have:=jE E H;unfold g7 at this;rw[ON]at this;have:=h.toRight.Z6;omega
  have Z:ek ((n7 c l d).length+1) 8:=aG (by omega) (by omega);have hA:(g7 c d l).map aa=(n7 c l d).map aa++[[I d]]:=by unfold g7;rw[Oa];rfl
  have O:(g7 c d l).length=(n7 c l d).length+1:=by unfold g7;simp
  rw[i,PQ];rw[hA]at f6;rw[O];unfold aH at f5 f6 f7;generalize rn c (g7 c d l)=G at*;generalize n7 c l d=U at*;by_cases Q:G.length=U.length+1
  ·have L:((G.length:Int)==((U.length+1:Nat):Int))=true:=by simp[Q]
   rw[Ou Q,PQ];have F:=jw t Z L;exact UR f5 f6 f7
  have L:((G.length:Int)==((U.length+1:Nat):Int))=false:=by simp;omega
  rw[Oi Q,PU];have F:=jw t Z L;exact po f5 f6
 rw[Oi q]at f;have J:(((Lib.compact l).length:Int)==(l.length:Int))=false:=by simp;omega
 rw[<-f,PU,PU,PU];unfold aH;refine qf func161 call161 ntmps161 results161 ?_;have F:=u;repeat refine PJ f0 f1 ?_
 refine uj 21 rfl (row:=⟨1,l.map aa,3,true⟩) X (PD 0) rfl (bl _).symm (by simp only[go_sem];exact iR) (by simp only[go_sem];exact iR) (by simp only[go_sem];exact iR) (by simp only[go_sem];exact iR) iR ?_;rw[bl];have F:=jw u J jF;exact fl
end
section
def Ew{c:aq}(h:cD c){k:Nat}{s:pc}(g:c.Z9[k]? =some s)(f:s.kind=4\/s.kind=5):ar c s.parent=true/\fe c s.parent=true:=by
 have a:cu c s=true:=by
  rcases h.cases g with⟨e,_⟩|⟨e,_⟩|⟨e,_⟩|⟨_,_,e,_⟩
  ·omega
  ·omega
  ·omega
  exact e
 unfold cu at a;cases b:at_ c s.parent with
 |none=>rw[b]at a;cases a
 | some p=>
   rw[b]at a;refine⟨?_,?_⟩
   ·unfold ar;rw[b];unfold eO;simp only at a |-;rw[a];rfl
   unfold at_ at b;split at b
   ·rename_i d;have:=(OG.1 b).1;exact aJ.2 ⟨d,by omega⟩
   cases b
def N1{c:aq}{i:Int}(h:fe c i=false):at_ c i=none:=by
 unfold at_;split
 ·rename_i a;refine OT ?_;have: ¬(0<=i/\i< (c.Z9.length:Int)):=fun q=>by rw[aJ.2 q]at h;cases h
  omega
 rfl
def Cz(env:b7)(c:aq)(h:cD c)(v:h9 c)(m:ed)(p:ek m.2.length 8):cy prog env 126 [aH c, .agg (fi m)] (B (mz c m)):=by
 obtain⟨i,l⟩:=m;have p:ek l.length 8:=p;have f0:=ap env c v;unfold mz fi;simp only;cases f:fe c i with
 | false=>
   rw[N1 f];simp only;unfold aH at f0 |-;by_cases t:i<0
   ·refine qf func126 call126 ntmps126 results126 ?_;have F:=ai WH t;exact nb f0
   have e:(c.Z9.length:Int)<=i:=by
    have: ¬(0<=i/\i< (c.Z9.length:Int)):=fun q=>by rw[aJ.2 q]at f;cases f
    omega
   refine qf func126 call126 ntmps126 results126 ?_;have F:=jw WH t e;exact nb f0
 |true=>
 obtain⟨k,s,rfl,a,r⟩:=fB f;have C:=(OG.1 a).1;have g: ¬(k:Int)<0:=by omega
 have j: ¬(c.Z9.length:Int)<=(k:Int):=by omega
 have n:((k:Nat):Int)< (c.Z9.length:Int):=by omega
 rw[r];simp only;have u:=h.Z6;by_cases d:s.kind=4
 ·rw[OL d];have b:(s.kind==4)=true:=by simp[d]
  obtain⟨w,x⟩:=Ew h a (.inl d);have f2:=bX env c h s.parent;rw[OL (.inr x), <-gL]at f2;have A:=d7 h.toRight s.parent true;by_cases e:l.length=1
  ·obtain⟨y,rfl⟩: ∃y,l=[y]:=Rl.1 e;have f3:=bG env (zL (aw c s.parent true)) y (by rw[cQ];omega);show cy _ _ _ _ (B ((zL (aw c s.parent true)).contains y));generalize zL (aw c s.parent true)=Z at*;unfold aH at f0 f2 |-;refine qf func126 call126 ntmps126 results126 ?_;have F:=vb WH WI a g j n b;exact UR f0 f2 f3
  have z:((l.length:Int)==1)=false:=by simp;omega
  rw[Oi e,PU];unfold aH at f0 |-;refine qf func126 call126 ntmps126 results126 ?_;have F:=L7 WH WI a g j n b z;exact nb f0
 ·rw[OK d];have b:(s.kind==4)=false:=by simpa using d
  cases o:(s.kind==5) with
  | false=>
    rw[PU];unfold aH at f0 |-;refine qf func126 call126 ntmps126 results126 ?_;have F:=L7 WH WI a g j n b o;exact nb f0
  | true=>
    rw[PQ];obtain⟨w,x⟩:=Ew h a (.inr (by simpa using o));have f2:=KJ env c h v s.parent w l p;unfold aH at f0 f2 |-;generalize O' c s.parent l=D at*;refine qf func126 call126 ntmps126 results126 ?_;have F:=L7 WH WI a g j n b o;exact po f0 f2
def LJ(a:Addr)(c:aq)(mem:List ed):AV:=if bu c mem=true then gc else dj (-1) (b6 a)
def BO{c:aq}{mem:List ed}{j:Nat}(a:j<mem.length)(h:se c mem j=false):bu c mem=false:=by
 unfold bu;rw[RP];exact⟨j,Oh.2 a,by rw[h];simp⟩
def Gx{c:aq}{mem:List ed}(h: ∀j,j<mem.length->se c mem j=true):bu c mem=true:=by
 unfold bu;rw[OP];exact fun j a=>h j (Oh.1 a)
def qF(env:b7)(l u:Addr)(C:fk env l u)(c:aq)(h:cD c)(D:h9 c)(mem:List ed)(H:mem.length<=1000000)(B: ∀m∈mem,ek m.2.length 8):cy prog env 74 [aH c,i9 mem] (LJ l c mem):=by
 have v:=D7 env l u C [101,110,116,101,114,46,67,104,101,99,107];unfold LJ;generalize b6 l=E at*;unfold aH;refine qf func74 call74 ntmps74 results74 ?_;repeat refine sm ?_
 refine UC mem.length (by omega) (fun j J=>[(0, .ref 9 [aK c] 0 0),(1,i9 mem),(11,i9 mem),(12,I mem.length),(13,I j)]) (fun _ _=>[]) (fun j _ _=> ∀m,m<j->se c mem m=true) (fun m q=>absurd q (by omega)) ?_ ?_
 ·rintro j G r d k z b;obtain⟨x,g⟩:=gE d;have f1:=Cz env c h D x (B x (OM g));have a:se c mem j=(mz c x&&((j==0)||decide ((mem.getD (j-1) (0,[])).1<x.1))):=by unfold se;rw[g]
  unfold aH fi at f1;cases o:mz c x with
  | false=>
    rw[o]at f1;rw[OK (by rw[BO d (by rw[a,o];rfl)];simp)];have F:=jw WS g k;exact po f1 v
  | true=>
    rw[o]at f1;rw[o,PQ]at a;by_cases A:j=0
    ·have n: ¬(0:Int)< (j:Int):=by omega
     have F:=ld WS g k z n;repeat refine g8 f1 ?_
     refine⟨j+1,⟨d,fun m q=> ?_⟩,?_,?_,by omega⟩
     ·obtain rfl:m=j:=by omega
      rw[a,A];rfl
     ·exact qe
     exact qe
    obtain⟨i,rfl⟩: ∃i,j=i+1:=⟨j-1,by omega⟩;obtain⟨p,t⟩: ∃p,mem[i]? =some p:=⟨mem[i]'(by omega),OE (by omega)⟩;have n:(0:Int)< ((i+1:Nat):Int):=by omega
    have w:IntKind.i64.wrap (((i+1:Nat):Int)-1)=(i:Int):=by rw[Qz _ (by omega)];omega
    have y:((i:Nat):Int)< (mem.length:Int):=by omega
    have s:mem.getD (i+1-1) (0,[])=p:=by rw[QX,Oe,t];rfl
    rw[s]at a;by_cases f:x.1<=p.1
    ·rw[OK (by rw[BO d (by rw[a,Oi (by omega)];rfl)];simp)];have F:=L7 WS g t k n w y f;exact po f1 v
    have F:=y' WS g t k z n w y f;repeat refine g8 f1 ?_
    refine⟨i+1+1,⟨d,fun m q=> ?_⟩,?_,?_,by omega⟩
    ·rcases Qb.1 q with e|e
     ·exact b m e
     rw[e,a,Ou (by omega)];simp
    ·exact qe
    exact qe
 rintro G r k b;rw[OL (Gx b)];have F:=k;exact fl
end
section
end
section
end
section
end
section
def jf(c:aq)(x:Int):Bool:=match c.Z9[x.toNat]? with
 |some s=>decide (s.parent<0)&&(s.kind==3)
 |none=>false
def mr(c:aq)(act:List Int):Bool:=act.any (jf c)
def LP{c:aq}{act:List Int}{i:Nat}{x:Int}(a:(act.take i).any (jf c)=false)(b:act[i]? =some x)(h:jf c x=false):(act.take (i+1)).any (jf c)=false:=by
 rw[Ot,b,List.any_append,a];simp[h]
def M7{c:aq}{act:List Int}{i:Nat}{x:Int}(a:act[i]? =some x)(h:jf c x=true):mr c act=true:=P1.2 ⟨x,OM a,h⟩
def JO(env:b7)(c:aq)(act:List Int)(v:act.length<=1000000)(t: ∀x∈act,0<=x/\x<c.Z9.length):cy prog env 76 [.agg (aA c),cI act] (B (mr c act)):=by
 refine qf func76 call76 ntmps76 results76 ?_;have F:=aA.eq_1;repeat refine st ?_
 have F:=aA.eq_1;refine lq act.length (by omega) (fun i o=>[(2, .loc 2 (o 2) 0 0),(7,cI act),(8,I act.length),(9,I i)]) (fun _ _=>[(2,⟨5,[aA c],26,false⟩)]) (fun i _ _=>(act.take i).any (jf c)=false) rfl ?_ ?_
 ·rintro i o j a e l f;obtain⟨x,b⟩:=gE a;obtain⟨r,u⟩:=t x (OM b);obtain⟨k,rfl⟩:=QG r;have q:k<c.Z9.length:=by omega
  obtain⟨s,g⟩:=gE q;have m:=mc q;have n:jf c k=(decide (s.parent<0)&&(s.kind==3)):=by unfold jf;rw[Pd,g]
  by_cases d:s.parent<0
  ·by_cases h:s.kind=3
   ·rw[M7 b (by rw[n,Ou d,h];rfl)];have F:=zs WH WI WN e l m b g d h;exact fl
   have p:(s.kind==3)=false:=by simpa using h
   have F:=zs WH WI WN e l m b g d p;repeat refine st ?_
   refine⟨i+1,⟨a,LP f b (by rw[n,p,P0])⟩,?_,?_,by omega⟩
   ·exact qe
   have F:=aA.eq_1;exact qe
  have F:=y' WH WI WN e l m b g d;repeat refine st ?_
  refine⟨i+1,⟨a,LP f b (by rw[n,Oi d,PU])⟩,?_,?_,by omega⟩
  ·exact qe
  have F:=aA.eq_1;exact qe
 rintro o j e f;rw[show mr c act=false from by rwa [PI (by omega)]at f];have F:=e;exact fl
def JX(env:b7)(l:List (List UInt8×Int))(G:l.length<=9223372036854775807)(D: ∀t∈l,t.1.length<=9223372036854775807):cy prog env 75 [.seq 2 (l.map ew)] (B (ay l)):=by
 refine qf func75 call75 ntmps75 results75 ?_;repeat refine sm ?_
 refine UC l.length (by omega) (fun i _=>[(0, .seq 2 (l.map ew)),(5, .seq 2 (l.map ew)),(6,I l.length),(7,I i)]) (fun _ _=>[]) (fun i _ _=> ∀j,j<i->jV l j=true) (fun j C=>by omega) ?_ ?_
 ·rintro i E r c d f q;obtain⟨x,b⟩:=gE c;have f1:=dL env x.1 (D x (EQ b));have a:jV l i=false->ay l=false:=fun h=>by rw[ay,cm c h];rfl
  cases k:bT x.1
  ·rw[a (by unfold jV;rw[cW b,k];rfl)];rw[k]at f1;have F:=mX d f b WT;exact nb f1
  rw[k]at f1;by_cases m:x.2<0
  ·rw[a (by unfold jV jP;rw[cW b,Oi (by omega),P0];rfl)];have F:=ld d f b WT m;exact nb f1
  by_cases o:1099511627776<x.2
  ·rw[a (by unfold jV jP;rw[cW b,Oi (by omega),P0];rfl)];have F:=pf d f b WT m o;exact nb f1
  have u:jP x.2=true:=Ou ⟨by omega,by omega⟩;by_cases z:i=0
  ·have p: ¬(0:Int)< (i:Int):=by omega
   have F:=vb d f b WT m o p;repeat refine g8 f1 ?_
   refine⟨i+1,⟨c,iK q ?_⟩,?_,?_,by omega⟩
   ·unfold jV;rw[cW b,k,u,Ou z];rfl
   ·exact qe
   exact qe
  have p:(0:Int)< (i:Int):=by omega
  have v:IntKind.i64.wrap ((i:Int)-1)=((i-1:Nat):Int):=Mo i 1 (by omega) (by omega);have w:((i-1:Nat):Int)< (l.length:Int):=by omega
  obtain⟨y,s⟩: ∃y,l[i-1]? =some y:=⟨l[i-1],OE (by omega)⟩;have A:jV l i= !(Op.bytesLess x.1 y.1||x.1==y.1):=by unfold jV;rw[cW b,cW s,k,u,Oi z,pg];rfl
  by_cases g:(Op.bytesLess x.1 y.1||x.1==y.1)=true
  ·rw[a (by rw[A,g];rfl)];have F:=u4 d f b WT m o p v w s g;exact nb f1
  have g:(Op.bytesLess x.1 y.1||x.1==y.1)=false:=by simpa using g
  have F:=u4 d f b WT m o p v w s g;repeat refine g8 f1 ?_
  exact qn (i+1) ⟨c,iK q (by rw[A,g];rfl)⟩
 rintro E r d q
 have e:ay l=decide ((l.length:Int)<=8):=by
  rw[ay,ba (n:=l.length) fun j C=>q j (by omega),PQ];exact TT.2 (by omega)
 rw[e];have F:=d;exact fl
def Gv(env:b7)(a b:Addr)(d:fk env a b)(s:List UInt8):cy prog env 77 [Sg s] (dj (-1) (b6 a)):=by
 have c:=gS d.e1;have f1:=bW env s a;refine qf func77 call77 ntmps77 results77 ?_;have F:=c;exact nb f1
structure UH(r:Rc):Prop where
 Z8:r.Z8.length<=1000000
 vars:r.vars.length<=1000000
 mem:r.mem.length<=1000000
 timers:r.timers.length<=9223372036854775807
def Vm.toI{r:Rc}(h:Vm r):UH r:=⟨h.Z8,h.vars,h.mem,by have:=h.timers;omega⟩
def tK(l:List Int):Bool:=l.all aL
def cM(c:aq)(r:Rc):Bool:=F' c r.Z8&&bu c r.mem&&(r.vars.length==c.vars.length)&&ay r.timers&&(r.over==mr c r.Z8)&&tK r.vars
def rF(a:Addr)(c:aq)(r:Rc):AV:=if cM c r=true then gc else dj (-1) (b6 a)
def Nk{c:aq}{act:List Int}(h:F' c act=true): ∀x∈act,0<=x/\x<c.Z9.length:=fun x g=>by
 obtain⟨i,e⟩:=QB.1 g;have d:=(zB.1 h).1 i (OG.1 e).1;rw[yN e,OJ]at d;have a:=d.2;unfold vA at_ at a;by_cases b:0<=x
 ·rw[OL b]at a;cases f:c.Z9[x.toNat]? with
  |none=>rw[f]at a;cases a
  |some s=>have:=(OG.1 f).1;omega
 rw[OK b]at a;cases a
end
section
def MH{l:List Int}{i:Nat}{x:Int}(a:(l.take i).all aL=true)(b:l[i]? =some x)(h:aL x=true):(l.take (i+1)).all aL=true:=by
 rw[Ot,b,SI,a];simp[h]
def MI{l:List Int}{i:Nat}{x:Int}(a:l[i]? =some x)(h:aL x=false):tK l=false:=by
 unfold tK;rw[RP];exact⟨x,OM a,by rw[h];exact P3⟩
def AG(env:b7)(d q:Addr)(y:fk env d q)(c:aq)(h:cD c)(A:h9 c)(r:Rc)(o:UH r)(B: ∀t∈r.timers,t.1.length<=9223372036854775807)(b:cy prog env 74 [aH c,i9 r.mem] (LJ d c r.mem)):cy prog env 33 [aH c, .agg (B9 r)] (rF d c r):=by
 have f1:=ap env c A;have f2:=cY env d q y c h A r.Z8 o.Z8;have f4:=JX env r.timers o.timers B;have f6:=Gv env d q y [109,105,99,114,111,46,67,104,101,99,107];have a:cM c r=false->rF d c r=dj (-1) (b6 d):=fun h=>by unfold rF;rw[h];rfl
 unfold vL at f2;unfold LJ at b;unfold aA at f1;unfold aH at f1 f2 b |-;cases e:F' c r.Z8
 ·rw[a (by unfold cM;rw[e];rfl)];rw[e,OK P3]at f2;refine qf func33 call33 ntmps33 results33 ?_;have F:=B9.eq_1;exact UR f1 f2 f6
 rw[e,OL rfl]at f2;cases g:bu c r.mem
 ·rw[a (by unfold cM;rw[g,P0];rfl)];rw[g,OK P3]at b;refine qf func33 call33 ntmps33 results33 ?_;have F:=B9.eq_1;exact Wi f1 f2 b f6
 rw[g,OL rfl]at b;by_cases s:r.vars.length=c.vars.length
 case neg=>
  rw[a (by unfold cM;rw[show (r.vars.length==c.vars.length)=false by simpa using s,P0];rfl)];have f:((r.vars.length:Int) != (c.vars.length:Int))=true:=by simp;omega
  refine qf func33 call33 ntmps33 results33 ?_;have F:=ai Xm f;exact Wi f1 f2 b f6
 have f:((r.vars.length:Int) != (c.vars.length:Int))=false:=by simp[s]
 cases j:ay r.timers
 ·rw[a (by unfold cM;rw[j,P0];rfl)];rw[j]at f4;refine qf func33 call33 ntmps33 results33 ?_;have F:=ai Xm f;exact Wt f1 f2 b f4 f6
 rw[j]at f4;have f5:=JO env c r.Z8 o.Z8 (Nk e);unfold aA at f5;cases k:(r.over==mr c r.Z8)
 ·rw[a (by unfold cM;rw[k,P0];rfl)];refine qf func33 call33 ntmps33 results33 ?_;have F:=jw Xm f k;exact Wj f1 f2 b f4 f5 f6
 have z:cM c r=tK r.vars:=by unfold cM;rw[e,g,j,k,show (r.vars.length==c.vars.length)=true by simpa using s];rfl
 have C:=o.vars;refine qf func33 call33 ntmps33 results33 ?_;have F:=jw Xm f k;repeat refine WG f1 f2 b f4 f5 f6 ?_
 try clear f1 f2 b f4 f5 e g f j k
 refine lq r.vars.length (by omega) (fun i _=>[(52,cI r.vars),(53,I r.vars.length),(54,I i)]) (fun _ _=>[]) (fun i _ _=>(r.vars.take i).all aL=true) rfl ?_ ?_
 ·rintro i D u l n w v;obtain⟨x,p⟩:=gE l;have f7:=dD env x;cases m:aL x
  ·rw[m]at f7;rw[a (by rw[z];exact MI p m)];have F:=mX WN n w p;exact po f6 f7
  rw[m]at f7;have F:=mX WN n w p;repeat refine PJ f6 f7 ?_
  exact qn (i+1) ⟨l,MH v p m⟩
 rintro D u n v;rw[show rF d c r=gc from by unfold rF;rw[OL (by rw[z];unfold tK;rwa [PI (by omega)]at v)]];have F:=n;exact fl
def nE(env:b7)(a b:Addr)(d:fk env a b)(c:aq)(h:cD c)(f:h9 c)(r:Rc)(e:UH r)(i: ∀t∈r.timers,t.1.length<=9223372036854775807)(g: ∀m∈r.mem,ek m.2.length 8):cy prog env 33 [aH c, .agg (B9 r)] (rF a c r):=
 AG env a b d c h f r e i (qF env a b d c h f r.mem e.mem g)
def qG(env:b7)(s:List UInt8):cy prog env 15 [Sg s,gc] gc:=by
 refine qf func15 call15 ntmps15 results15 ?_;repeat refine sm ?_
 exact L0
def FO(a:Addr)(c:aq)(r:Rc):AV:=if (aW r&&cM c r)=true then gc else dj (-1) (dj (-1) (b6 a))
def Cj(env:b7)(a e:Addr)(f:fk env a e)(c:aq)(h:cD c)(k:h9 c)(r:Rc)(g:Vm r)(i: ∀t∈r.timers,t.1.length<=9223372036854775807)(j: ∀m∈r.mem,ek m.2.length 8):cy prog env 10 [aH c, .agg (dy r)] (FO a c r):=by
 have f1:=x9 env a e f r g i;have f2:=nE env a e f c h k r g.toI i j;have f3:=du env [114,101,99,111,114,100,46,70,105,116] (-1) (b6 a);have f4:=qG env [114,101,99,111,114,100,46,70,105,116];unfold Ko at f1;unfold rF at f2;unfold aH at f2 |-;unfold B9 at f2;unfold dy at f1;cases b:aW r
 ·rw[b,OK P3]at f1;rw[show FO a c r=dj (-1) (dj (-1) (b6 a)) from by unfold FO;rw[b];rfl];refine qf func10 call10 ntmps10 results10 ?_;have F:=dy.eq_1;exact po f1 f3
 rw[b,OL rfl]at f1;cases d:cM c r
 ·rw[d,OK P3]at f2;rw[show FO a c r=dj (-1) (dj (-1) (b6 a)) from by unfold FO;rw[b,d];rfl];refine qf func10 call10 ntmps10 results10 ?_;have F:=dy.eq_1;exact UR f1 f2 f3
 rw[d,OL rfl]at f2;rw[show FO a c r=gc from by unfold FO;rw[b,d];rfl];refine qf func10 call10 ntmps10 results10 ?_;have F:=dy.eq_1;exact UR f1 f2 f4
end
section
def rK(b:Bool):List AV:=[B b]
def jG(w:u0):List AV:=[cI w.vars,I w.data, .seq 1 (w.act.map rK)]
def Xi:=@jG.eq_1
def vW{n:Int}(h:aL n=true):IntKind.i64.wrap n=n:=by
 rw[bm]at h;exact bB (by omega) (by omega)
def tu{n:Int}(h:Vb n):IntKind.i64.wrap n=n:=by
 unfold Vb at h;exact bB (by omega) (by omega)
def jU(env:b7)(b:Bool):cy prog env 257 [B b] (I (U6 b)):=by
 cases b
 ·show cy _ _ _ _ (I 0);refine qf func257 call257 ntmps257 results257 ?_;repeat refine sm ?_
  exact L0
 show cy _ _ _ _ (I 1);refine qf func257 call257 ntmps257 results257 ?_;repeat refine sm ?_
 exact L0
def vf(env:b7)(k a:Int)(d:k=5\/k=6)(c:aL a=true):cy prog env 249 [I k,I a] (.tuple [I (UG k a),B true]):=by
 have f0:=jU env (a==0);rcases d with rfl|rfl
 ·have b:IntKind.i64.wrap (0-a)=UG 5 a:=vW (E6 5 c);refine qf func249 call249 ntmps249 results249 ?_;have F:=b;exact nb f0
 have b:U6 (a==0)=UG 6 a:=rfl;refine qf func249 call249 ntmps249 results249 ?_;have F:=b;exact nb f0
def JK(env:b7)(k a b:Int)(e:k=8\/k=9)(g:aL a=true):cy prog env 258 [I k,I a,I b] (.tuple [I (nr k a b).1,B (nr k a b).2]):=by
 by_cases c:b=0
 ·subst c;have d:nr k a 0=(0,false):=by rcases e with rfl|rfl<;>rfl
  rw[d];refine qf func258 call258 ntmps258 results258 ?_;repeat refine sm ?_
  exact L0
 have f:(b==0)=false:=by simpa using c
 rcases e with rfl|rfl
 ·have d:nr 8 a b=(a.tdiv b,true):=by simp[nr,c]
  have h:=vW (vg (b:=b) g);rw[d];refine qf func258 call258 ntmps258 results258 ?_;have F:=jw f h c;exact fl
 have d:nr 9 a b=(a.tmod b,true):=by simp[nr,c]
 rw[d];refine qf func258 call258 ntmps258 results258 ?_;have F:=ai f c;exact fl
def AQ(env:b7)(k a b:Int)(c:12<=k/\k<=17):cy prog env 259 [I k,I a,I b] (B (U8 k a b)):=by
 obtain rfl|rfl|rfl|rfl|rfl|rfl:k=12\/k=13\/k=14\/k=15\/k=16\/k=17:=by omega
 all_goals (refine ir func259 rfl call259 (by rw [ntmps259]; simp) ?_
            rw[ntmps259,results259])
 all_goals have F:=U8.eq_1
 all_goals (repeat refine st ?_)
 all_goals ((refine aO ?_;show (au _ _ _).run _=some _;simp only[go_sem,F]))
def tf(env:b7)(k a b:Int)(p:7<=k/\k<=19)(n:aL a=true)(o:aL b=true):cy prog env 250 [I k,I a,I b] (.tuple [I (nr k a b).1,B (nr k a b).2]):=by
 have c:=(yi k n o).1;by_cases l:k=7
 ·subst l;have f0:=dD env (a*b);have e:IntKind.i64.wrap (a*b)=a*b:=tu c;show cy _ _ _ _ (.tuple [I (a*b),B (aL (a*b))]);refine qf func250 call250 ntmps250 results250 ?_;have F:=e;exact nb f0
 by_cases m:k=8\/k=9
 ·have f0:=JK env k a b m n;generalize nr k a b=R at*;rcases m with rfl|rfl
  ·refine qf func250 call250 ntmps250 results250 ?_;repeat refine nf f0 ?_
   exact L0
  refine qf func250 call250 ntmps250 results250 ?_;repeat refine nf f0 ?_
  exact L0
 by_cases f:k=10
 ·subst f;have f0:=dD env (a+b);have e:IntKind.i64.wrap (a+b)=a+b:=tu c;show cy _ _ _ _ (.tuple [I (a+b),B (aL (a+b))]);refine qf func250 call250 ntmps250 results250 ?_;have F:=e;exact nb f0
 by_cases g:k=11
 ·subst g;have f0:=dD env (a-b);have e:IntKind.i64.wrap (a-b)=a-b:=tu c;show cy _ _ _ _ (.tuple [I (a-b),B (aL (a-b))]);refine qf func250 call250 ntmps250 results250 ?_;have F:=e;exact nb f0
 have j: ∀t:Bool,cy prog env 78 [I (U6 t)] (B true):=fun t=>by
  have:=dD env (U6 t);rwa [gK]at this
 by_cases h:k=18
 ·subst h;show cy _ _ _ _ (.tuple [I (U6 (a != 0&&b != 0)),B true]);have f0:=jU env (a != 0&&b != 0);have f1:=j (a != 0&&b != 0);cases d:(a != 0)
  ·rw[d]at f0 f1;refine qf func250 call250 ntmps250 results250 ?_;have F:=d;exact po f0 f1
  rw[d]at f0 f1;refine qf func250 call250 ntmps250 results250 ?_;have F:=d;exact po f0 f1
 by_cases i:k=19
 ·subst i;show cy _ _ _ _ (.tuple [I (U6 (a != 0||b != 0)),B true]);have f0:=jU env (a != 0||b != 0);have f1:=j (a != 0||b != 0);cases d:(a != 0)
  ·rw[d]at f0 f1;refine qf func250 call250 ntmps250 results250 ?_;have F:=d;exact po f0 f1
  rw[d]at f0 f1;refine qf func250 call250 ntmps250 results250 ?_;have F:=d;exact po f0 f1
 have e:nr k a b=(U6 (U8 k a b),true):=by
  unfold nr;rw[OK l,OK (by omega),OK (by omega),OK f,OK g,OK h,OK i]
 rw[e];have f0:=AQ env k a b (by omega);have f1:=jU env (U8 k a b);have f2:=j (U8 k a b);generalize U8 k a b=R at*;obtain rfl|rfl|rfl|rfl|rfl|rfl:k=12\/k=13\/k=14\/k=15\/k=16\/k=17:=by omega
 all_goals (refine ir func250 rfl call250 (by rw [ntmps250]; simp) ?_
            rw[ntmps250,results250])
 all_goals (repeat refine Md f0 f1 f2 ?_)
 all_goals ((refine aO ?_;show (au _ _ _).run _=some _;simp only[go_sem]))
def BZ(env:b7)(w:u0)(o:mw)(c:1<=o.kind/\o.kind<=4)(h:nk o w.vars.length w.act.length=true):cy prog env 248 [.agg (cE o), .agg (jG w)] (I (m9 w o)):=by
 obtain⟨k,n⟩:=o;simp only at c;unfold m9;unfold nk at h;simp only at h |-;obtain rfl|rfl|rfl|rfl:k=1\/k=2\/k=3\/k=4:=by omega
 ·show cy _ _ _ _ (I n);refine qf func248 call248 ntmps248 results248 ?_;have F:=ai WO Xi;exact fl
 ·have h:0<=n/\n<w.vars.length:=by simpa using h
  obtain⟨m,rfl⟩:=gk h.1;have a:(m:Int)< (w.vars.length:Int):=h.2;have b:w.vars[m]? =some (w.vars.getD m 0):=by rw[Oe,OE (by omega)];rfl
  show cy _ _ _ _ (I (w.vars.getD ((m:Int).toNat) 0));rw[Pd];refine qf func248 call248 ntmps248 results248 ?_;have F:=ld WO Xi WN a b;exact fl
 ·show cy _ _ _ _ (I w.data);refine qf func248 call248 ntmps248 results248 ?_;have F:=ai WO Xi;exact fl
 have h:0<=n/\n<w.act.length:=by simpa using h
 obtain⟨m,rfl⟩:=gk h.1;have a:(m:Int)< (w.act.length:Int):=h.2;have b:w.act[m]? =some (w.act.getD m false):=by rw[Oe,OE (by omega)];rfl
 show cy _ _ _ _ (I (U6 (w.act.getD ((m:Int).toNat) false)));rw[Pd];have f0:=jU env (w.act.getD m false);generalize w.act.getD m false=t at*;refine qf func248 call248 ntmps248 results248 ?_;have F:=ld WO Xi rK.eq_1 a b;exact nb f0
end
section
def yM{c:aq}{act:List Int}(h:F' c act=true): ∃l:List Nat,act=zL l/\ ∀k∈l,k<c.Z9.length:=by
 have i:=(zB.1 h).1
 have f: ∀x∈act,0<=x/\x< (c.Z9.length:Int):=fun x a=>by
  obtain⟨n,d,e⟩:=Pe a;have:=i n d;rw[yN (OG.2 ⟨d,e⟩),OJ]at this;have b:=this.2;cases g:fe c x with
  |false=>rw[u9 g]at b;cases b
  |true=>exact aJ.1 g
 refine⟨act.map Int.toNat,?_,fun k j=> ?_⟩
 ·unfold zL;rw[Q1];refine((Po fun x a=> ?_).trans (List.map_id act)).symm;have:=f x a;show ((x.toNat:Nat):Int)=x;omega
 obtain⟨x,a,rfl⟩:=OW.1 j;have:=f x a;omega
def MF(c:aq)(l:List Nat)(k:Nat):Bool:=cR (zL l) (aw c k true)==0
def RK(c:aq)(l:List Nat)(j:Nat):List Nat:=(l.take j).filter (MF c l)
def Ul(c:aq)(l:List Nat):List Nat:=ca c (zL (RK c l l.length))
def HQ{c:aq}{l:List Nat}{j k:Nat}(h:l[j]? =some k):RK c l (j+1)=if MF c l k then RK c l j++[k] else RK c l j:=by
 unfold RK;rw[Ot,h,PH];cases a:MF c l k<;>simp[a]
def BR(c:aq)(l:List Nat)(j:Nat):(RK c l j).length<=l.length:=by
 unfold RK;exact O3 (Ol ..) (by rw[OZ];omega)
def AH(env:b7)(c:aq)(h:cD c)(l:List Nat)(A:l.length<=1000)(v: ∀k∈l,k<c.Z9.length):cy prog env 177 [aH c, .seq 1 (l.map aB)] (.own 3 1 ((Ul c l).map aB)):=by
 have r:=h.Z6;have f0:=j8 env c (by omega) (zL l) (by rw[cQ];omega);rw[gL]at f0;have f1:=fun k:Nat=>bX env c h k;have f2:=fun k:Nat=>uK env c.Z9.length (zL l) (aw c k true) (by omega) (by have:=d7 h.toRight k true;omega) (fun j u=>by have:=bK h.toRight (ae u).1;omega);have f3:=bJ env c;have f4:=fZ env c h.toRight (zL (RK c l l.length)) (by rw[cQ];have:=BR c l l.length;omega);rw[gL]at f4;show cy _ _ _ _ (.own _ 1 ((ca c (zL (RK c l l.length))).map aB));generalize ca c (zL (RK c l l.length))=R at*;unfold aS at f3 f4;unfold aH at f0 f1 f3 |-;generalize o:lf c.Z9.length (zL l)=z at*;try clear o
 refine qf func177 call177 ntmps177 results177 ?_;repeat refine sm ?_
 refine am 5 5 3 1 ?_;refine UC l.length (by omega) (fun j x=>[(0, .ref 9 [aK c] 0 0),(1, .seq 1 (l.map aB)),(5, .row 5 (x 5)),(8, .seq 1 (l.map aB)),(9,I l.length),(10,I j)]) (fun j _=>[(5,⟨1,(RK c l j).map aB,3,true⟩)]) (fun j _ a=>a 5=false) rfl ?_ ?_
 ·rintro j y a b m s d;obtain⟨k,i⟩:=gE b;have p:=v k (OM i);have f1:=f1 k;rw[OL (.inr (ak.2 p))]at f1;have f2:=f2 k;have w:=BR c l j;have t:ek ((RK c l j).length+1) 8:=aG (by omega) (by omega);have g:=HQ (c:=c) i;have e:MF c l k=(cR (zL l) (aw c k true)==0):=rfl;cases f:MF c l k with
  | true=>
    rw[f,OL rfl]at g;rw[f]at e
    have n:(((cR (zL l) (aw c k true):Nat):Int)==0)=true:=by
     have:=P4.1 e.symm;simp;omega
    have F:=vb WJ i m s n t d;repeat refine V6 f0 f1 f2 ?_
    refine⟨j+1,⟨b,by simp only[go_sem,d]⟩,?_,?_,by omega⟩
    ·exact qe
    have F:=jw WJ g @Oa.{0,0};exact qe
  | false=>
    rw[f,OK P3]at g;rw[f]at e
    have n:(((cR (zL l) (aw c k true):Nat):Int)==0)=false:=by
     have: ¬cR (zL l) (aw c k true)=0:=fun q=>by rw[q]at e;cases e
     simp;omega
    have F:=pf WJ i m s n d;repeat refine V6 f0 f1 f2 ?_
    refine⟨j+1,⟨b,by simp only[go_sem,d]⟩,?_,?_,by omega⟩
    ·exact qe
    have F:=ai WJ g;exact qe
 rintro y a m d;have F:=ai m d;exact po f3 f4
def Gh(env:b7)(b d:Addr)(f:fk env b d)(c:aq)(h:cD c)(a:h9 c)(l:List Nat)(i:l.length<=1000)(g: ∀k∈l,k<c.Z9.length)(e:F' c (zL l)=true):cy prog env 155 [aH c, .seq 1 (l.map aB)] (.tuple [.seq 1 ((Ul c l).map aB),gc]):=by
 have f0:=cY env b d f c h a (zL l) (by rw[cQ];omega);unfold vL at f0;rw[OL e,gL]at f0;have f1:=AH env c h l i g;unfold aH at f0 f1 |-;generalize Ul c l=R at*;refine qf func155 call155 ntmps155 results155 ?_;repeat refine E8 f0 f1 ?_
 exact L0
end
end Go.Proofs.YtfcdkaolcdglmaaGreatDoor
