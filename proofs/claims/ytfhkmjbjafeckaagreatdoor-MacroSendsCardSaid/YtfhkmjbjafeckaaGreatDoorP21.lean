/- Memories, as the document checks them: the whole. -/
import Derived.Test.YtfhkmjbjafeckaaGreatDoorP20
set_option maxRecDepth 100000
set_option maxHeartbeats 16000000
set_option linter.unusedSimpArgs false
set_option linter.defProp false
namespace Go.Proofs.YtfhkmjbjafeckaaGreatDoor
open Go.Proofs.Tryz
open Go.RowKit
section
def tL(env:b8)(x:Int):b7 prog env 288 [I x] (B false):=by
 have a:(x==x)=true:=by simp
 refine qf func288 call288 ntmps288 results288 ?_;have F:=ai a jO;exact ek
def HV(env:b8)(x y:Int):b7 prog env 258 [I x,I y] (B (decide (x<y))):=by
 have f0:=tL env x;have f1:=tL env y;by_cases h:x<y
 ·rw[Ni h];refine qf func258 call258 ntmps258 results258 ?_;have F:=h;exact mw f0 f1
 rw[N7 h];refine qf func258 call258 ntmps258 results258 ?_;have F:=h;exact mw f0 f1
def AK{l:List Int}{n:Nat}(h: ∀j,n<=j->j<l.length->jT l j=true)(c:n<=1):jP l=true:=by
 unfold jP;rw[Mz];intro j a;have a:=NX.1 a;by_cases b:n<=j
 ·exact h j b a
 obtain rfl:j=0:=by omega
 rfl
def Cr{l:List Int}{j:Nat}(a:j<l.length)(h:jT l j=false):jP l=false:=by
 unfold jP;rw[PR];exact⟨j,NX.2 a,by rw[h];simp⟩
def yV(env:b8)(l:List Int)(G:l.length<=9223372036854775807):b7 prog env 264 [.seq 1 (l.map aa)] (B (jP l)):=by
 have x:IntKind.i64.wrap ((l.length:Int)-1)=(l.length:Int)-1:=Pu _ (by omega);refine qf func264 call264 ntmps264 results264 ?_;have F:=x;repeat refine st ?_
 refine aH (D:=Nat) (fun j H=>[(0, .seq 1 (l.map aa)),(3,I ((l.length:Int)-1-(j:Int)))]) (fun _ _=>[]) (fun j _ _=>j<=l.length/\ ∀m,l.length-j<=m->m<l.length->jT l m=true) (fun j=>l.length-j) 0 ?_ ?_ ?_ ?_
 ·exact⟨NG _,fun m c d=>absurd d (by omega)⟩
 ·have F:=Int.sub_zero
  (simp only[go_sem,F])
  try rfl
 ·(simp only[go_sem,Int.sub_zero])
  try rfl
 rintro j J t ⟨E,a⟩;by_cases e:0< (l.length:Int)-1-(j:Int)
 ·have v: ∃i:Nat,(l.length:Int)-1-(j:Int)=(i:Int)/\i+j+1=l.length:=⟨l.length-1-j,by omega,by omega⟩;obtain⟨i,s,y⟩:=v;have c:i<l.length:=by omega
  have d:i-1<l.length:=by omega
  have q:l[i]? =some (l.getD i 0):=by rw[NW,Mq c];rfl
  have r:l[i-1]? =some (l.getD (i-1) 0):=by rw[NW,Mq d];rfl
  have f:IntKind.i64.wrap ((i:Int)-1)=((i-1:Nat):Int):=by rw[Pu _ (by omega)];omega
  have k:(0:Int)< (i:Int):=by omega
  have o:(i:Int)< (l.length:Int):=by omega
  have p:((i-1:Nat):Int)< (l.length:Int):=by omega
  have h:jT l i=decide (¬l.getD i 0<l.getD (i-1) 0):=by
   unfold jT;rw[show (i==0)=false by simp;omega,Oj]
  rw[s];generalize A:l.getD i 0=X at*;generalize C:l.getD (i-1) 0=Y at*;have f0:=HV env X Y;by_cases b:X<Y
  ·rw[Ni b]at f0;rw[Cr c (by rw[h,N7 (by simpa using b)])];have F:=i' k o p q r f;exact hH f0
  rw[N7 b]at f0;have g:(l.length:Int)-1-((j+1:Nat):Int)=((i-1:Nat):Int):=by omega
  have F:=i' k o p q r f;repeat refine fc f0 ?_
  refine⟨j+1,⟨by omega,fun m z u=> ?_⟩,?_,?_,by omega⟩
  ·by_cases w:m=i
   ·rw[w,h,Ni b]
   exact a m (by omega) u
  ·have F:=g;exact qe
  ·(simp only[go_sem,g])
 rw[AK (n:=l.length-j) a (by omega)];have F:=e;exact ek
def EJ(env:b8)(c:aq)(h:ch c)(U:g7 c)(g:Int)(l:List Int)(T:l.length<=1000000)(P: ∀x∈l,fb c x=true):b7 prog env 268 [aG c,I g, .seq 1 (l.map aa)] (B (l.all (cg c l))):=by
 have f0:=ay env c U;unfold aG at f0 |-;refine qf func268 call268 ntmps268 results268 ?_;have F:=aA.eq_1;repeat refine fc f0 ?_
 have F:=aA.eq_1;refine lq l.length (by omega) (fun j C=>[(0, .ref 9 [ct c] 0 0),(2, .seq 1 (l.map aa)),(7, .loc 7 (C 7) 0 0),(16, .seq 1 (l.map aa)),(17,I l.length),(18,I j)]) (fun _ _=>[(7,⟨5,[aA c],26,false⟩)]) (fun j _ _=> ∀m (y:Int),m<j->l[m]? =some y->cg c l y=true) (fun m y i=>absurd i (by omega)) ?_ ?_
 ·rintro j V E v L R b;obtain⟨x,J⟩:=gE v;have p:=Mv J;obtain⟨k,s,rfl,o,G⟩:=cS (P x p);have Y:=(Mr.1 o).1;have S:((k:Nat):Int)< (c.Z9.length:Int):=by omega
  have f1:=bf env c h k;rw[Mw (.inr (P _ p))]at f1;have u:cg c l (k:Int)= !(((s.kind==1)&&decide (1<b6 l (av c k true)))||((s.kind==4)||(s.kind==5))):=by unfold cg;rw[G]
  have X:=bE h.toRight k true;have O:=h.Z6;unfold aG at f1;generalize av c (k:Int) true=K at*;have F:=gb J L R;repeat refine fc f1 ?_
  refine aH (D:=Nat) (fun m C=>[(0, .ref 9 [ct c] 0 0),(2, .seq 1 (l.map aa)),(7, .loc 7 (C 7) 0 0),(9,I k),(10,I (b6 l (K.take m):Nat)),(16, .seq 1 (l.map aa)),(17,I l.length),(18,I j),(24, .row 24 (C 24)),(25,I K.length),(26,I m)]) (fun _ _=>[(7,⟨5,[aA c],26,false⟩),(24,⟨1,K.map aB,3,true⟩)]) (fun m _ _=>m<=K.length) (fun m=>K.length-m) 0 ?_ ?_ ?_ ?_
  ·exact NG _
  ·(simp only[go_sem,F])
   try rfl
  ·have F:=aA.eq_1
   (simp only[go_sem,F])
   try rfl
  rintro m Z W i;by_cases d:m<K.length
  ·obtain⟨y,f⟩:=gE d;have z:=it d;have Q:=aD d (by omega);have f2:=bL env l (y:Int) T;have a:=yu (act:=l) f;have H:=yv l (K.take m);rw[NJ]at H;have p3:=aD (show b6 l (K.take m)<K.length by omega) (by omega);cases M:l.contains (y:Int) with
   | true=>
     rw[M]at f2 a;rw[Mw rfl]at a;have F:=g9 Ux f z Q p3;repeat refine fc f2 ?_
     refine⟨m+1,d,?_,?_,by omega⟩
     ·have F:=a;exact qe
     have F:=aA.eq_1;exact qe
   | false=>
     rw[M]at f2 a;rw[Mt Nc,PY]at a;have F:=hU Ux f z Q;repeat refine fc f2 ?_
     refine⟨m+1,d,?_,?_,by omega⟩
     ·have F:=a;exact qe
     have F:=aA.eq_1;exact qe
  ·obtain rfl:m=K.length:=by omega
   have z:=nl K.length;rw[NR];generalize b6 l K=N at*;cases A:cg c l (k:Int) with
   | false=>
     rw[show l.all (cg c l)=false from PR.2 ⟨_,p,by rw[A];simp⟩];cases q:(s.kind==1)<;>cases r:(s.kind==4)<;>cases t:(s.kind==5)<;>by_cases w:(1:Int)< (N:Int)
     all_goals first
      |(exfalso;have n:(1<N)=((1:Int)< (N:Int)):=(by simp;omega);simp[u,q,r,t,n,w]at A;done)
      |skip
     all_goals
      have F:=qr Uv Uw o z S q r t w;exact ek
   | true=>
     cases q:(s.kind==1)<;>cases r:(s.kind==4)<;>cases t:(s.kind==5)<;>by_cases w:(1:Int)< (N:Int)
     all_goals first
      |(exfalso;have n:(1<N)=((1:Int)< (N:Int)):=(by simp;omega);simp[u,q,r,t,n,w]at A;done)
      |skip
     all_goals
      have F:=lE Uv Uw o z R S q r t w;repeat refine st ?_
      refine⟨j+1,⟨v,fun m y i f=> ?_⟩,?_,?_,by omega⟩
      ·rcases OW.1 i with e|e
       ·exact b m y e f
       rw[e,J]at f;cases f;exact A
      ·exact qe
      have F:=aA.eq_1;exact qe
 rintro V E L b
 rw[show l.all (cg c l)=true from Mz.2 fun y f=>by
  obtain⟨m,i⟩:=O6.1 f
  exact b m y (Mr.1 i).1 i]
 have F:=L;exact ek
end
section
def EM(env:b8)(es:List (List AV))(b:cU es.length 8):b7 prog env 73 [.seq 1 es] (.own 3 1 es):=by
 cases es with
 |nil=>exact dW env [] (by simp)
 | cons d l=>
   have a:cU ((l.length+1)) 8:=by simpa using b
   refine qf func73 call73 ntmps73 results73 ?_;have F:=a;exact ek
def Jc{c:aq}(h:ch c){a:Int}(p:az c a=true){l:List Int}(q:gP l=true)(m: ∀x∈l,a7 c a x=true):(∀x∈l,fb c x=true)/\(iS c a l).Nodup/\(∀x∈iS c a l,fb c x=true)/\l.length<=32:=by
 have i: ∀x∈l,fb c x=true:=fun x b=>aZ (m x b);obtain⟨t,s⟩:=gz (c:=c) (d:=a) (l:=l);obtain⟨sp,g,_⟩:=iE p
 have k:fb c a=true:=by
  unfold at_ at g;split at g
  ·rename_i n;have:=(Mr.1 g).1;exact aI.2 ⟨n,by omega⟩
  cases g
 have f: ∀x∈m7 c l a,a7 c a x=true:=fun x b=>by
  rcases (s x).1 b with b|⟨_,_,_,_,b⟩
  ·exact m x b
  exact b
 have j:a∉m7 c l a:=fun o=>by
  have:=f _ o;unfold a7 at this;have:=(kC h.toRight 40 a a (Mx.1 this)).2;omega
 refine⟨i,?_,fun x b=> ?_,?_⟩
 ·unfold iS;rw[Ov];refine⟨t,by simp,fun x b y r e=> ?_⟩;rw[NO.1 r]at e;rw[e]at b;exact j b
 ·unfold iS at b;rcases NY.1 b with b|b
  ·exact aZ (f x b)
  rw[NO.1 b];exact k
 have:=iI (kJ q) i;have:=h.toRight.Z6;omega
def Jb(env:b8)(c:aq)(h:ch c)(hs:g7 c)(d:Int)(hp:az c d=true)(l:List Int)(Y:cU l.length 8):b7 prog env 230 [aG c,I d, .seq 1 (l.map aa)] (B (D' c d l)):=by
 have p:l.length<=9223372036854775807:=Y.2;have f0:=yV env l p;have f1:=EM env (l.map aa) (by rw[NQ];exact Y);have X:=EH l p;have f:=Ki l;unfold D';cases P:l with
 | nil=>
   rw[show gP []=false from rfl,Ng,Ng,Ng];unfold aG;refine qf func230 call230 ntmps230 results230 ?_;repeat refine m9 ?_
   exact oj
 |cons d0 l0=>
 rw[<-P];have z:l.isEmpty=false:=by rw[P];rfl
 have u:((l.length:Int)==0)=false:=by rw[P];simp;omega
 rw[z,OT,Nj]at f;cases n:jP l with
 | false=>
   rw[n,Ng]at f;rw[n]at f0;rw[<-f,Ng,Ng,Ng];unfold aG;refine qf func230 call230 ntmps230 results230 ?_;have F:=u;exact hH f0
 |true=>
 rw[n,Nj]at f;rw[n]at f0;by_cases q:(Lib.compact l).length=l.length
 ·rw[Ni q]at f;have J:(((Lib.compact l).length:Int)==(l.length:Int))=true:=by simp[q]
  rw[<-f,Nj];have f2:=fun k:Int=>fV env c h.toRight d k;have f3:=bQ env c;unfold aQ at f2 f3;have W:=fun(k:Int)=>bf env c h k;unfold aG at f3 W |-;refine qf func230 call230 ntmps230 results230 ?_;have F:=u;repeat refine wc f0 f1 ?_
  refine vN 21 rfl (row:=⟨1,l.map aa,3,true⟩) X (Nf 0) rfl (cB _).symm (by simp only[go_sem];exact iR) (by simp only[go_sem];exact iR) (by simp only[go_sem];exact iR) (by simp only[go_sem];exact iR) iR ?_;rw[cB];have F:=gb u J jO;repeat refine st ?_
  refine lq l.length (by omega) (fun j vs=>[(0, .ref 9 [ct c] 0 0),(1,I d),(2, .seq 1 (l.map aa)),(28, .seq 1 (l.map aa)),(29,I l.length),(30,I j)]) (fun _ _=>[]) (fun j _ _=> ∀m (y:Int),m<j->l[m]? =some y->eD c d y=true) (fun m y s=>absurd s (by omega)) ?_ ?_
  ·rintro j ws N C t q2 g;obtain⟨x,o⟩:=gE C;have T:=Mv o;have w:=f2 x;have M:=W x;have v:eD c d x=false->(l.all (eD c d))=false:=fun hb=>PR.2 ⟨_,T,by rw[hb];simp⟩;cases r:a7 c d x with
   | false=>
     rw[v (by unfold eD;rw[r];rfl),Ng,Ng];rw[r]at w;have F:=ai o t;exact mw f3 w
   | true=>
     rw[r]at w;rw[Mw (.inr (aZ r))]at M;cases A:(av c x true).isEmpty with
     | false=>
       rw[v (by unfold eD;rw[r,A];rfl),Ng,Ng]
       have V:(0:Int)< ((av c x true).length:Int):=by
        cases R:av c x true with
        |nil=>rw[R]at A;cases A
        |cons a b=>simp
       generalize av c x true=K at*;have F:=gb o t V;exact An f3 w M
     | true=>
       have V: ¬(0:Int)< ((av c x true).length:Int):=by
        rw[List.isEmpty_iff.1 A];simp
       have S:eD c d x=true:=by unfold eD;rw[r,A];rfl
       generalize av c x true=K at*;have F:=hU o t q2 V;repeat refine Sx f3 w M ?_
       refine⟨j+1,⟨C,fun m y s D=> ?_⟩,?_,?_,by omega⟩
       ·rcases OW.1 s with e|e
        ·exact g m y e D
        rw[e,o]at D;cases D;exact S
       ·exact qe
       exact qe
  rintro ws N t g
  have i:l.all (eD c d)=true:=Mz.2 fun y D=>by
   obtain⟨m,s⟩:=O6.1 D;exact g m y (Mr.1 s).1 s
  have hz: ∀x∈l,a7 c d x=true:=fun x o=>by
   have:=Mz.1 i x o;unfold eD at this;rw[Mu]at this;exact this.1
  obtain⟨k1,E,H,k4⟩:=Jc h hp f.symm hz;have f5:=Jv env c h.toRight l (by omega) k1 d;have f6:=Bt env c h hs (iS c d l) E H;have hgl:=Bs h E H;have f7:=EJ env c h hs d (px c (iS c d l)) (by omega) fun x o=>((ej h E).1 o).in h H
  have hul:(m7 c l d).length<=32:=by
   have:=iI E H;unfold iS at this;rw[My]at this;have:=h.toRight.Z6;omega
  have Z:cU ((m7 c l d).length+1) 8:=aC (by omega) (by omega);have hA:(iS c d l).map aa=(m7 c l d).map aa++[[I d]]:=by unfold iS;rw[NA];rfl
  have O:(iS c d l).length=(m7 c l d).length+1:=by unfold iS;simp
  rw[i,Nj];rw[hA]at f6;rw[O];unfold aG at f5 f6 f7;generalize px c (iS c d l)=G at*;generalize m7 c l d=U at*;by_cases Q:G.length=U.length+1
  ·have L:((G.length:Int)==((U.length+1:Nat):Int))=true:=by simp[Q]
   rw[Ni Q,Nj];have F:=gb t Z L;exact An f5 f6 f7
  have L:((G.length:Int)==((U.length+1:Nat):Int))=false:=by simp;omega
  rw[N7 Q,Ng];have F:=gb t Z L;exact mw f5 f6
 rw[N7 q]at f;have J:(((Lib.compact l).length:Int)==(l.length:Int))=false:=by simp;omega
 rw[<-f,Ng,Ng,Ng];unfold aG;refine qf func230 call230 ntmps230 results230 ?_;have F:=u;repeat refine wc f0 f1 ?_
 refine vN 21 rfl (row:=⟨1,l.map aa,3,true⟩) X (Nf 0) rfl (cB _).symm (by simp only[go_sem];exact iR) (by simp only[go_sem];exact iR) (by simp only[go_sem];exact iR) (by simp only[go_sem];exact iR) iR ?_;rw[cB];have F:=gb u J jO;exact ek
end
section
def sq{c:aq}(h:ch c){k:Nat}{s:nr}(g:c.Z9[k]? =some s)(f:s.kind=4\/s.kind=5):az c s.parent=true/\fb c s.parent=true:=by
 have a:cw c s=true:=by
  rcases h.cases g with⟨e,_⟩|⟨e,_⟩|⟨e,_⟩|⟨_,_,e,_⟩
  ·omega
  ·omega
  ·omega
  exact e
 unfold cw at a;cases b:at_ c s.parent with
 |none=>rw[b]at a;cases a
 | some p=>
   rw[b]at a;refine⟨?_,?_⟩
   ·unfold az;rw[b];unfold eR;simp only at a |-;rw[a];rfl
   unfold at_ at b;split at b
   ·rename_i d;have:=(Mr.1 b).1;exact aI.2 ⟨d,by omega⟩
   cases b
def KZ{c:aq}{i:Int}(h:fb c i=false):at_ c i=none:=by
 unfold at_;split
 ·rename_i a;refine NI ?_;have: ¬(0<=i/\i< (c.Z9.length:Int)):=fun q=>by rw[aI.2 q]at h;cases h
  omega
 rfl
def D9(env:b8)(c:aq)(h:ch c)(v:g7 c)(m:ds)(p:cU m.2.length 8):b7 prog env 186 [aG c, .agg (fe m)] (B (lQ c m)):=by
 obtain⟨i,l⟩:=m;have p:cU l.length 8:=p;have f0:=ay env c v;unfold lQ fe;simp only;cases f:fb c i with
 | false=>
   rw[KZ f];simp only;unfold aG at f0 |-;by_cases t:i<0
   ·refine qf func186 call186 ntmps186 results186 ?_;have F:=ai Uv t;exact hH f0
   have e:(c.Z9.length:Int)<=i:=by
    have: ¬(0<=i/\i< (c.Z9.length:Int)):=fun q=>by rw[aI.2 q]at f;cases f
    omega
   refine qf func186 call186 ntmps186 results186 ?_;have F:=gb Uv t e;exact hH f0
 |true=>
 obtain⟨k,s,rfl,a,r⟩:=cS f;have C:=(Mr.1 a).1;have g: ¬(k:Int)<0:=by omega
 have j: ¬(c.Z9.length:Int)<=(k:Int):=by omega
 have n:((k:Nat):Int)< (c.Z9.length:Int):=by omega
 rw[r];simp only;have u:=h.Z6;by_cases d:s.kind=4
 ·rw[Mw d];have b:(s.kind==4)=true:=by simp[d]
  obtain⟨w,x⟩:=sq h a (.inl d);have f2:=bf env c h s.parent;rw[Mw (.inr x), <-bd]at f2;have A:=bE h.toRight s.parent true;by_cases e:l.length=1
  ·obtain⟨y,rfl⟩: ∃y,l=[y]:=Ps.1 e;have f3:=bL env (zL (av c s.parent true)) y (by rw[am];omega);show b7 _ _ _ _ (B ((zL (av c s.parent true)).contains y));generalize zL (av c s.parent true)=Z at*;unfold aG at f0 f2 |-;refine qf func186 call186 ntmps186 results186 ?_;have F:=mc Uv Uw a g j n b;exact An f0 f2 f3
  have z:((l.length:Int)==1)=false:=by simp;omega
  rw[N7 e,Ng];unfold aG at f0 |-;refine qf func186 call186 ntmps186 results186 ?_;have F:=n4 Uv Uw a g j n b z;exact hH f0
 ·rw[Mt d];have b:(s.kind==4)=false:=by simpa using d
  cases o:(s.kind==5) with
  | false=>
    rw[Ng];unfold aG at f0 |-;refine qf func186 call186 ntmps186 results186 ?_;have F:=n4 Uv Uw a g j n b o;exact hH f0
  | true=>
    rw[Nj];obtain⟨w,x⟩:=sq h a (.inr (by simpa using o));have f2:=Jb env c h v s.parent w l p;unfold aG at f0 f2 |-;generalize D' c s.parent l=D at*;refine qf func186 call186 ntmps186 results186 ?_;have F:=n4 Uv Uw a g j n b o;exact mw f0 f2
def KT(a:Addr)(c:aq)(mem:List ds):AV:=if bc c mem=true then h9 else dt (-1) (bx a)
def ol{c:aq}{mem:List ds}{j:Nat}(a:j<mem.length)(h:nH c mem j=false):bc c mem=false:=by
 unfold bc;rw[PR];exact⟨j,NX.2 a,by rw[h];simp⟩
def wu{c:aq}{mem:List ds}(h: ∀j,j<mem.length->nH c mem j=true):bc c mem=true:=by
 unfold bc;rw[Mz];exact fun j a=>h j (NX.1 a)
def qP(env:b8)(l u:Addr)(C:fU env l u)(c:aq)(h:ch c)(D:g7 c)(mem:List ds)(H:mem.length<=1000000)(B: ∀m∈mem,cU m.2.length 8):b7 prog env 130 [aG c,fk mem] (KT l c mem):=by
 have v:=Du env l u C [101,110,116,101,114,46,67,104,101,99,107];unfold KT;generalize bx l=E at*;unfold aG;refine qf func130 call130 ntmps130 results130 ?_;repeat refine m9 ?_
 refine RK mem.length (by omega) (fun j J=>[(0, .ref 9 [ct c] 0 0),(1,fk mem),(11,fk mem),(12,I mem.length),(13,I j)]) (fun _ _=>[]) (fun j _ _=> ∀m,m<j->nH c mem m=true) (fun m q=>absurd q (by omega)) ?_ ?_
 ·rintro j G r d k z b;obtain⟨x,g⟩:=gE d;have f1:=D9 env c h D x (B x (Mv g));have a:nH c mem j=(lQ c x&&((j==0)||decide ((mem.getD (j-1) (0,[])).1<x.1))):=by unfold nH;rw[g]
  unfold aG fe at f1;cases o:lQ c x with
  | false=>
    rw[o]at f1;rw[Mt (by rw[ol d (by rw[a,o];rfl)];simp)];have F:=gb UH g k;exact mw f1 v
  | true=>
    rw[o]at f1;rw[o,Nj]at a;by_cases A:j=0
    ·have n: ¬(0:Int)< (j:Int):=by omega
     have F:=g9 UH g k z n;repeat refine fc f1 ?_
     refine⟨j+1,⟨d,fun m q=> ?_⟩,?_,?_,by omega⟩
     ·obtain rfl:m=j:=by omega
      rw[a,A];rfl
     ·exact qe
     exact qe
    obtain⟨i,rfl⟩: ∃i,j=i+1:=⟨j-1,by omega⟩;obtain⟨p,t⟩: ∃p,mem[i]? =some p:=⟨mem[i]'(by omega),Mq (by omega)⟩;have n:(0:Int)< ((i+1:Nat):Int):=by omega
    have w:IntKind.i64.wrap (((i+1:Nat):Int)-1)=(i:Int):=by rw[Pu _ (by omega)];omega
    have y:((i:Nat):Int)< (mem.length:Int):=by omega
    have s:mem.getD (i+1-1) (0,[])=p:=by rw[P6,NW,t];rfl
    rw[s]at a;by_cases f:x.1<=p.1
    ·rw[Mt (by rw[ol d (by rw[a,N7 (by omega)];rfl)];simp)];have F:=n4 UH g t k n w y f;exact mw f1 v
    have F:=qr UH g t k z n w y f;repeat refine fc f1 ?_
    refine⟨i+1+1,⟨d,fun m q=> ?_⟩,?_,?_,by omega⟩
    ·rcases OW.1 q with e|e
     ·exact b m e
     rw[e,a,Ni (by omega)];simp
    ·exact qe
    exact qe
 rintro G r k b;rw[Mw (wu b)];have F:=k;exact ek
end
section
def Ik{l:List Int}{j:Nat}(a:j<l.length)(h:Tn l j=false):gP l=false:=by
 unfold gP;rw[Bool.and_eq_false_iff];right;rw[PR];exact⟨j,NX.2 a,by rw[h];simp⟩
def Ij{l:List Int}(h: ∀j,j<l.length->Tn l j=true):gP l=decide ((0:Int)< (l.length:Int)):=by
 unfold gP;rw[Mz.2 fun j c=>h j (NX.1 c),RU];cases l with
 |nil=>rfl
 |cons a b=>rw[Ni (by simp only[NN];omega)];rfl
def AW(env:b8)(l:List Int)(v:l.length<=9223372036854775807):b7 prog env 241 [.seq 1 (l.map aa)] (B (gP l)):=by
 refine qf func241 call241 ntmps241 results241 ?_;repeat refine m9 ?_
 refine aH (D:=Nat) (fun j w=>[(0, .seq 1 (l.map aa)),(3,I ((j+1:Nat):Int))]) (fun _ _=>[]) (fun j _ _=>j<=l.length/\ ∀m,m<=j->m<l.length->Tn l m=true) (fun j=>l.length-j) 0 ?_ ?_ ?_ ?_
 ·refine⟨NG _,fun m f _=> ?_⟩;obtain rfl:m=0:=by omega
  rfl
 ·(simp only[go_sem])
  try rfl
 ·(simp only[go_sem])
  try rfl
 rintro j x o ⟨u,a⟩;by_cases b:j+1<l.length
 ·have f:j<l.length:=by omega
  have k:l[j+1]? =some (l.getD (j+1) 0):=by rw[NW,Mq b];rfl
  have n:l[j]? =some (l.getD j 0):=by rw[NW,Mq f];rfl
  have e:IntKind.i64.wrap (((j+1:Nat):Int)-1)=(j:Int):=by rw[Pu _ (by omega)];omega
  have c:((j+1:Nat):Int)< (l.length:Int):=by omega
  have i:((j:Nat):Int)< (l.length:Int):=by omega
  have q:=aD b (by omega)
  have h:Tn l (j+1)=decide (l.getD j 0<l.getD (j+1) 0):=by
   unfold Tn;rw[show (j+1==0)=false by simp,Oj,P6]
  generalize s:l.getD (j+1) 0=X at*;generalize t:l.getD j 0=Y at*;by_cases g:X<=Y
  ·rw[Ik b (by rw[h,N7 (by omega)])];have F:=i' c i k n e g;exact ek
  have F:=mc c i q k n e g;repeat refine st ?_
  refine⟨j+1,⟨by omega,fun m r p=> ?_⟩,?_,?_,by omega⟩
  ·by_cases d:m=j+1
   ·rw[d,h,Ni (by omega)]
   exact a m (by omega) p
  ·exact qe
  exact qe
 have c: ¬((j+1:Nat):Int)< (l.length:Int):=by omega
 rw[Ij fun m d=>a m (by omega) d];have F:=c;exact ek
def kW(c:aq)(l:List Int)(d:Int)(j:Nat):List Nat:=(List.range j).filter (rT c l d)
def A7(c:aq)(l:List Int)(d:Int)(j:Nat):kW c l d (j+1)=if rT c l d j then kW c l d j++[j] else kW c l d j:=by
 unfold kW;rw[PN,N5];cases a:rT c l d j<;>simp[a]
def Bx(c:aq)(l:List Int)(d:Int)(i:Nat)(m:Nat):Bool:=l.contains (i:Int)||(l.take m).any fun k=>a7 c i k&&a7 c d i
def A8{c:aq}{l:List Int}{d:Int}{i m:Nat}{y:Int}(h:l[m]? =some y):Bx c l d i (m+1)=(Bx c l d i m||(a7 c i y&&a7 c d i)):=by
 unfold Bx;rw[N1,h,List.any_append];simp only[Qo,QH,Qx,Bool.or_false,Bool.or_assoc]
def wX(env:b8)(c:aq)(z:Right c)(l:List Int)(K:l.length<=1000000)(d:Int):b7 prog env 173 [.agg (aA c), .seq 1 (l.map aa),I d] (.own 3 1 ((th c l d).map aB)):=by
 have A:=z.Z6;have t:=fun(k i:Int)=>eT env c z k i;unfold aA at t;refine qf func173 call173 ntmps173 results173 ?_;have F:=aA.eq_1;repeat refine st ?_
 have F:=aA.eq_1;refine lq c.Z9.length (by omega) (fun j o=>[(1, .seq 1 (l.map aa)),(2,I d),(3, .loc 3 (o 3) 0 0),(7, .row 11 (o 11)),(8,I j)]) (fun j _=>[(3,⟨5,[aA c],26,false⟩),(11,⟨1,(kW c l d j).map aB,3,true⟩)]) (fun j _ e=>e 11=false) rfl ?_ ?_
 ·rintro j N e n w C a;have f0:=cK env l (j:Int) K;have r:=A7 c l d j;have L:(kW c l d j).length<=32:=NK (NS ..) (by simp;omega);have J:cU ((kW c l d j).length+1) 8:=aC (by omega) (by omega);have u:rT c l d j=Bx c l d j l.length:=by unfold rT Bx;rw[NR]
  have O:Bx c l d j 0=l.contains (j:Int):=by unfold Bx;simp
  generalize H:kW c l d j=D at*;rw[<-O]at f0;have F:=gb Uv w a;repeat refine fc f0 ?_
  have F:=aA.eq_1;refine lq l.length (by omega) (fun m o=>[(1, .seq 1 (l.map aa)),(2,I d),(3, .loc 3 (o 3) 0 0),(7, .row 11 (o 11)),(8,I j),(9,B (Bx c l d j m)),(10,I m)]) (fun m _=>[(3,⟨5,[aA c],26,false⟩),(11,⟨1,D.map aB,3,true⟩)]) (fun m _ e=>e 11=false) (by simp only[go_sem,a]) ?_ ?_
  ·try clear a
   rintro m M E f h v a;obtain⟨y,s⟩:=gE f;have g:=A8 (c:=c) (d:=d) (i:=j) s;have p:=t (j:Int) y;have G:=t d (j:Int);generalize Bx c l d j m=b at*;cases b with
   | true=>
     rw[QF]at g;have F:=g9 Uv s h v a;repeat refine st ?_
     refine⟨m+1,⟨f,by simp only[go_sem,a]⟩,?_,?_,by omega⟩
     ·have F:=g;exact qe
     have F:=aA.eq_1;exact qe
   | false=>
     rw[Oj]at g;cases q:a7 c (j:Int) y with
     | false=>
       rw[q]at p;rw[q,Ng]at g;have F:=g9 Uv s h v a;repeat refine fc p ?_
       refine⟨m+1,⟨f,by simp only[go_sem,a]⟩,?_,?_,by omega⟩
       ·have F:=g;exact qe
       have F:=aA.eq_1;exact qe
     | true=>
       rw[q]at p;rw[q,Nj]at g;have F:=g9 Uv s h v a;repeat refine wc p G ?_
       refine⟨m+1,⟨f,by simp only[go_sem,a]⟩,?_,?_,by omega⟩
       ·have F:=g;exact qe
       have F:=aA.eq_1;exact qe
  ·try clear a
   rintro M E h a;rw[<-u];cases x:rT c l d j with
   | true=>
     rw[x]at r;have F:=g9 Uv h C a J;repeat refine st ?_
     refine⟨j+1,⟨n,by simp only[go_sem,a]⟩,?_,?_,by omega⟩
     ·exact qe
     have F:=hU Uv r @NA.{0,0} Ux;exact qe
   | false=>
     rw[x]at r;have F:=hU Uv h C a;repeat refine st ?_
     refine⟨j+1,⟨n,by simp only[go_sem,a]⟩,?_,?_,by omega⟩
     ·exact qe
     have F:=ai Uv r;exact qe
 rintro N e w a;rw[show th c l d=kW c l d c.Z9.length from rfl];have F:=gb Uv w a;exact ek
end
section
def B9(c:aq)(l:List Int)(d:Int):(th c l d).length<=c.Z9.length:=NK (NS ..) (by simp)
def Hy{c:aq}{a:Int}(e:fb c a=true)(l:List Int): ∀x∈mv c a l,fb c x=true:=fun x b=>by
 unfold mv at b;rcases NY.1 b with b|b
 ·obtain⟨k,d,rfl⟩:=NE.1 b;exact aV.2 (NX.1 (ND.1 d).1)
 rw[NO.1 b];exact e
def Gk(env:b8)(c:aq)(h:ch c)(d:Int)(hp:fb c d=true)(l:List Int)(hF:cU l.length 8):b7 prog env 198 [.agg (aA c),I d, .seq 1 (l.map aa)] (B (tx c d l)):=by
 have S:l.length<=9223372036854775807:=hF.2;have f0:=AW env l S;have hlen:=h.Z6;have fA:=fun(i:Int)=>eT env c h.toRight d i;have W:=fun(i:Int)=>bh env c i true (by omega);have fM:=fun(s:nr)=>bu env s;unfold aA at fA W;unfold aK at fM;unfold tx;cases Y:gP l with
 | false=>
   rw[Y]at f0;rw[Ng,Ng];refine qf func198 call198 ntmps198 results198 ?_;have F:=aA.eq_1;exact hH f0
 |true=>
 rw[Y]at f0;rw[Nj];refine qf func198 call198 ntmps198 results198 ?_;have F:=aA.eq_1;repeat refine fc f0 ?_
 refine aH (D:=Nat) (fun j V=>[(1,I d),(2, .seq 1 (l.map aa)),(3, .loc 3 (V 3) 0 0),(7,I j)]) (fun _ _=>[(3,⟨5,[aA c],26,false⟩)]) (fun j _ _=>j<=l.length/\ ∀m (y:Int),m<j->l[m]? =some y->dD c d y=true) (fun j=>l.length-j) 0 ?_ ?_ ?_ ?_
 ·exact⟨NG _,fun m y n=>absurd n (by omega)⟩
 ·(simp only[go_sem,F])
  try rfl
 ·have F:=aA.eq_1
  (simp only[go_sem,F])
  try rfl
 rintro j ws esc ⟨hj,f⟩;by_cases g:j<l.length
 ·obtain⟨x,q⟩:=gE g;have r:=it g;have Z:=aD g (by omega);have z:=Mv q;have C:dD c d x=false->(l.all (dD c d))=false:=fun hb=>PR.2 ⟨_,z,by rw[hb];simp⟩;have G:=fA x;cases Q:a7 c d x with
  | false=>
    rw[C (by unfold dD;rw[Q];rfl),Ng];rw[Q]at G;have F:=gb Uv q r;exact hH G
  | true=>
    rw[Q]at G;obtain⟨k,s,rfl,o,E⟩:=cS (aZ Q);have hk:=(Mr.1 o).1;have H:((k:Nat):Int)< (c.Z9.length:Int):=by omega
    have J:=fM s;have L:=W (k:Int);have u:dD c d (k:Int)=(!aU s&&(av c k true).isEmpty):=by unfold dD;rw[Q,E,Nj]
    cases n:aU s with
    | true=>
      rw[C (by rw[u,n];rfl),Ng];rw[n]at J;have F:=i' Uv Uw q r H o;exact mw G J
    | false=>
      rw[n]at J u;cases t:(av c k true).isEmpty with
      | false=>
        rw[C (by rw[u,t];rfl),Ng]
        have q4:(0:Int)< ((av c k true).length:Int):=by
         cases w:av c k true with
         |nil=>rw[w]at t;cases t
         |cons a b=>simp
        generalize av c (k:Int) true=K at*;have F:=mc Uv Uw q r H q4 o;exact An G J L
      | true=>
        rw[t]at u
        have q4: ¬(0:Int)< ((av c k true).length:Int):=by
         rw[List.isEmpty_iff.1 t];simp
        generalize av c (k:Int) true=K at*;have F:=n4 Uv Uw q r Z H q4 o;repeat refine Sx G J L ?_
        refine⟨j+1,⟨g,fun m y n v=> ?_⟩,?_,?_,by omega⟩
        ·rcases OW.1 n with e|e
         ·exact f m y e v
         rw[e,q]at v;cases v;rw[u];rfl
        ·exact qe
        have F:=aA.eq_1;exact qe
 obtain rfl:j=l.length:=by omega
 have r:=nl l.length
 have p:l.all (dD c d)=true:=Mz.2 fun y v=>by
  obtain⟨m,n⟩:=O6.1 v;exact f m y (Mr.1 n).1 n
 have hz: ∀x∈l,fb c x=true:=fun x q=>by
  have:=Mz.1 p x q;unfold dD at this;rw[Mu,Mu]at this;exact aZ this.1.1
 have hl32:l.length<=32:=by
  have:=iI (kJ Y) hz;omega
 have f5:=wX env c h.toRight l (by omega) d;have hpl:=B9 c l d;have X:cU ((th c l d).length+1) 8:=aC (by omega) (by omega);have P:=Hy hp l;have hA:(mv c d l).map aa=(th c l d).map aB++[[I d]]:=by unfold mv;rw[NA,bd];rfl
 have hAl:(mv c d l).length<=40:=by unfold mv;rw[My,am];simp;omega
 rw[p,Nj];unfold aA at f5;generalize mv c d l=A at*;generalize th c l d=U at*;try clear f p
 have F:=gb Uv r X;repeat refine fc f5 ?_
 have F:=ai Uv hA;refine lq A.length (by omega) (fun j V=>[(3, .loc 3 (V 3) 0 0),(8, .row 53 (V 53)),(9,I j)]) (fun _ _=>[(3,⟨5,[aA c],26,false⟩),(53,⟨1,A.map aa,3,true⟩)]) (fun j _ _=> ∀m (y:Int),m<j->A[m]? =some y->dE c A y=true) (fun m y n=>absurd n (by omega)) ?_ ?_
 ·try clear r g hj X
  rintro j us es g r Z f;obtain⟨x,q⟩:=gE g;have z:=Mv q;obtain⟨k,s,rfl,o,E⟩:=cS (P x z);have hk:=(Mr.1 o).1;have H:((k:Nat):Int)< (c.Z9.length:Int):=by omega
  have L:=W (k:Int);have hK:=bE h.toRight k true;have e5:=gF env A (av c k true) (by omega) (by omega);have R:dE c A (k:Int)= !(((s.kind==1)&&decide (b6 A (av c k true)≠min (av c k true).length 1))||((s.kind==2)&&decide (b6 A (av c k true)≠(av c k true).length))):=by unfold dE;rw[E]
  generalize av c (k:Int) true=K at*;generalize b6 A K=N at*
  have g1:((N:Int) != if (1:Int)< (K.length:Int) then 1 else(K.length:Int))=decide (N≠min K.length 1):=by
   have e:(if (1:Int)< (K.length:Int) then(1:Int) else(K.length:Int))=((min K.length 1:Nat):Int):=by split<;>omega
   rw[e];by_cases w:N=min K.length 1
   ·rw[N7 (by simp[w]), <-w];simp
   rw[Ni w];simp;omega
  have g2:((N:Int) != (K.length:Int))=decide (N≠K.length):=by
   by_cases w:N=K.length
   ·rw[N7 (by simp[w]), <-w];simp
   rw[Ni w];simp;omega
  generalize decide (N≠min K.length 1)=v1 at*;generalize decide (N≠K.length)=v2 at*;cases T:dE c A (k:Int) with
  | false=>
    rw[show A.all (dE c A)=false from PR.2 ⟨_,z,by rw[T];simp⟩];cases M:(s.kind==1)<;>cases O:(s.kind==2)<;>cases v1<;>cases v2
    all_goals first
     |(exfalso;simp[R,M,O]at T;done)
     |skip
    all_goals
     have F:=lE Uv Uw q r H o M O g1 g2;exact mw L e5
  | true=>
    cases M:(s.kind==1)<;>cases O:(s.kind==2)<;>cases v1<;>cases v2
    all_goals first
     |(exfalso;simp[R,M,O]at T;done)
     |skip
    all_goals
     have F:=ql Uv Uw q r Z H o M O g1 g2;repeat refine wc L e5 ?_
     refine⟨j+1,⟨g,fun m y n v=> ?_⟩,?_,?_,by omega⟩
     ·rcases OW.1 n with e|e
      ·exact f m y e v
      rw[e,q]at v;cases v;exact T
     ·exact qe
     have F:=aA.eq_1;exact qe
 try clear r g hj X
 rintro us es r f
 rw[show A.all (dE c A)=true from Mz.2 fun y v=>by
  obtain⟨m,n⟩:=O6.1 v
  exact f m y (Mr.1 n).1 n]
 have F:=r;exact ek
end
section
def ve(env:b8)(c:aq)(h:ch c)(m:ds)(j:cU m.2.length 8):b7 prog env 140 [.agg (aA c), .agg (fe m)] (B (lQ c m)):=by
 obtain⟨i,l⟩:=m;have j:cU l.length 8:=j;have f0:=sY env c i;have p:=h.Z6;unfold aA at f0;unfold lQ fe;simp only;cases e:fb c i with
 | false=>
   rw[KZ e];rw[e]at f0;simp only;refine qf func140 call140 ntmps140 results140 ?_;have F:=aA.eq_1;exact hH f0
 |true=>
 rw[e]at f0;obtain⟨k,s,rfl,a,n⟩:=cS e;have v:=(Mr.1 a).1;have f:((k:Nat):Int)< (c.Z9.length:Int):=by omega
 rw[n];simp only;by_cases d:s.kind=4
 ·rw[Mw d];have b:(s.kind==4)=true:=by simp[d]
  obtain⟨q,r⟩:=sq h a (.inl d);have f2:=bh env c s.parent true (by omega);rw[<-bd]at f2;have u:=bE h.toRight s.parent true;by_cases o:l.length=1
  ·obtain⟨y,rfl⟩: ∃y,l=[y]:=Ps.1 o;have f3:=cK env (zL (av c s.parent true)) y (by rw[am];omega);show b7 _ _ _ _ (B ((zL (av c s.parent true)).contains y));unfold aA at f2;generalize zL (av c s.parent true)=Z at*;refine qf func140 call140 ntmps140 results140 ?_;have F:=g9 Uv Uw a f b;exact An f0 f2 f3
  have t:((l.length:Int)==1)=false:=by simp;omega
  rw[N7 o,Ng];refine qf func140 call140 ntmps140 results140 ?_;have F:=i' Uv Uw a f b t;exact hH f0
 ·rw[Mt d];have b:(s.kind==4)=false:=by simpa using d
  cases g:(s.kind==5) with
  | false=>
    rw[Ng];refine qf func140 call140 ntmps140 results140 ?_;have F:=i' Uv Uw a f b g;exact hH f0
  | true=>
    rw[Nj];obtain⟨q,r⟩:=sq h a (.inr (by simpa using g));have f2:=Gk env c h s.parent r l j;rw[<-qJ h q]at f2;unfold aA at f2;generalize D' c s.parent l=D at*;refine qf func140 call140 ntmps140 results140 ?_;have F:=i' Uv Uw a f b g;exact mw f0 f2
def yQ(env:b8)(c:aq)(h:ch c)(mem:List ds)(C:mem.length<=1000000)(y: ∀m∈mem,cU m.2.length 8):b7 prog env 78 [.agg (aA c),fk mem] (B (bc c mem)):=by
 refine qf func78 call78 ntmps78 results78 ?_;repeat refine m9 ?_
 have F:=aA.eq_1;refine lq mem.length (by omega) (fun j z=>[(1,fk mem),(2, .loc 2 (z 2) 0 0),(5,I j)]) (fun _ _=>[(2,⟨5,[aA c],26,false⟩)]) (fun j _ _=> ∀m,m<j->nH c mem m=true) (fun m o=>absurd o (by omega)) ?_ ?_
 ·rintro j A q d k v b;obtain⟨x,g⟩:=gE d;have f1:=ve env c h x (y x (Mv g));have a:nH c mem j=(lQ c x&&((j==0)||decide ((mem.getD (j-1) (0,[])).1<x.1))):=by unfold nH;rw[g]
  unfold aA fe at f1;cases n:lQ c x with
  | false=>
    rw[n]at f1;rw[ol d (by rw[a,n];rfl)];have F:=hU Uv UH g k;exact hH f1
  | true=>
    rw[n]at f1;rw[n,Nj]at a;by_cases w:j=0
    ·have l: ¬(0:Int)< (j:Int):=by omega
     have F:=i' Uv UH g k v l;repeat refine fc f1 ?_
     refine⟨j+1,⟨d,fun m o=> ?_⟩,?_,?_,by omega⟩
     ·obtain rfl:m=j:=by omega
      rw[a,w];rfl
     ·exact qe
     have F:=aA.eq_1;exact qe
    obtain⟨i,rfl⟩: ∃i,j=i+1:=⟨j-1,by omega⟩;obtain⟨p,s⟩: ∃p,mem[i]? =some p:=⟨mem[i]'(by omega),Mq (by omega)⟩;have l:(0:Int)< ((i+1:Nat):Int):=by omega
    have t:IntKind.i64.wrap (((i+1:Nat):Int)-1)=(i:Int):=by rw[Pu _ (by omega)];omega
    have u:((i:Nat):Int)< (mem.length:Int):=by omega
    have r:mem.getD (i+1-1) (0,[])=p:=by rw[P6,NW,s];rfl
    rw[r]at a;by_cases f:x.1<=p.1
    ·rw[ol d (by rw[a,N7 (by omega)];rfl)];have F:=qr Uv UH g s k l t u f;exact hH f1
    have F:=lE Uv UH g s k v l t u f;repeat refine fc f1 ?_
    refine⟨i+1+1,⟨d,fun m o=> ?_⟩,?_,?_,by omega⟩
    ·rcases OW.1 o with e|e
     ·exact b m e
     rw[e,a,Ni (by omega)];simp
    ·exact qe
    have F:=aA.eq_1;exact qe
 rintro A q k b;rw[wu b];have F:=k;exact ek
end
end Go.Proofs.YtfhkmjbjafeckaaGreatDoor
