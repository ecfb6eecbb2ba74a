/- The document's words on trees and tables. -/
import Derived.Test.YtknkhdgfhbogdaaGreatDoorP15
set_option maxRecDepth 100000
set_option maxHeartbeats 16000000
set_option linter.unusedSimpArgs false
set_option linter.defProp false
namespace Go.Proofs.YtknkhdgfhbogdaaGreatDoor
open Go.Proofs.Tryz
open Go.RowKit
section
def jd(c:aq):(aQ c).plain=true:=rfl
def K7(l:List Nat):l.map aB=(zL l).map aa:=by simp[aB,zL]
def CY(c:aq)(vs:Nat->Nat):d7 c 0 vs=[]:=rfl
def xQ(c:aq):it c 0=[]:=rfl
def zX{c:aq}{j:Nat}{g g':Nat->Nat}(h: ∀k,g (k+6000)=g' (k+6000)):d7 c j g=d7 c j g':=by
 apply Md;intro q;rw[dn,dn,h]
def FP{c:aq}{j:Nat}{s:St}{Q:St->Prop}(o:cy c (j+1)=cy c j++[dH c j])(a:dH c j∉cy c j)(k:cP s (FA c (j+1) s.vs))(m:bp s (RN c j s.vs))(n:s.esc 27=false)
 (l: ∀g e,e 27=false->Q (head (FA c (j+1) g) (RA c (j+1) g) g e)): ∃b,cU s b/\Q b:=by
 obtain⟨f,d,h,i⟩:=Jh o a (j+1) (g:=s.vs) (e:=s.esc) n;exact⟨_,(cU.head k m).trans i,l f d h⟩
def KR(c:aq)(F:Nat)(g:Nat->Nat)(R:List (Nat×Row))(e:Nat->Bool):cP (head (FA c F g) R g e) (FA c F g):=by
 simp only[cP,FA,head,mj,Mb,Nat.reduceEqDiff,Mi,Ls,reduceCtorEq]
def KO(c:aq)(j:Nat)(g:Nat->Nat)(F:List (Nat×AV))(e:Nat->Bool):bp (head F (RA c j g) g e) (RA c j g):=by
 refine⟨?_,?_,?_,px fun q r a=> ?_⟩
 ·simp only[head,RA,ao,Mb]
 ·simp only[head,RA,ao,Mb,Nat.reduceEqDiff,Mi]
 ·simp only[head,RA,ao,Mb,Nat.reduceEqDiff,Mi]
 simp only[head,RA,ao];rw[Lf (by omega),Lf (by omega),Lf (by omega),nh,a]
def vQ(env:b6)(a1 a8:Addr)(U:fq env a1 a8)(hT: ∀W,env.inv W->wg W)(c:aq)(B:nv c=(0, -1))(T:j6 c):b7 prog env 13 [.agg (aA c)] (.tuple [aH c, .lit .nilIface]):=by
 have h0:(nv c).1=0:=by rw[B]
 have h:=Qq h0;have hs:=t8 h0;have hlen:=h.Z6;have htr:=h.ZP;have f0:=HT env a1 a8 U hT c h.toRight (wj B) T;have f1:=pD env c hs;have f2:=Ch env c (by omega);refine qf func13 call13 ntmps13 results13 ?_;have F:=aA.eq_1;repeat refine Qs f0 f1 f2 ?_
 refine cT [(24,⟨1,(Fm c).map gF,9,true⟩)] ?_ ?_
 ·exact qe
 refine aG (D:=Nat) (fun j A=>FA c j A) (fun j A=>RA c j A) (fun j _ d=>j<=c.trans.length/\d 27=false) (fun j=>c.trans.length-j) 0 ?_ ?_ ?_ ?_
 ·exact⟨Lx _,rfl⟩
 ·have F:=ai Tr Tl;exact qe
 ·have F:=ip Ta Tk Tl @CY @xQ SR
  (simp only[go_sem,jw,F])
 try clear f0 f1 f2
 rintro j f d ⟨hj,m⟩;by_cases a:j<c.trans.length
 ·obtain⟨t,Z⟩:=gE a;have n:=h9 a;have s:=aD a (by omega);have fE:=(wW env c (by omega) .any ct t.Z8).lend rfl;have o:dH c j=(t.src,Qz c t.Z8):=by unfold dH;rw[Z]
  have K:=Fs c j f t.src (Qz c t.Z8);have w:=gp c j f;generalize Qz c t.Z8=e at*;refine dq ?_;cases L:qv (t.src,e) (cy c j) 0 with
  | none=>
    rw[L]at K;have G:dH c j∉cy c j:=by rw[o];exact lT L
    have J:cy c (j+1)=cy c j++[dH c j]:=by
     show (if dH c j∈cy c j then _ else _)=_;rw[Lf G]
    have Y: ∀x y:List AV,(d7 c j f++[x]).set (cy c j).length y=d7 c j f++[y]:=fun x y=>by rw[<-w];simp
    have P: ∀x:List AV,(d7 c j f++[x])[(cy c j).length]? =some x:=fun x=>by rw[<-w];simp
    have F:=dk Tr Ta Tk SR SV n s Z @jd K w<|fI Y P m;repeat refine st ?_
    refine lL fE ?_;repeat refine st ?_
    refine FP J G ?_ ⟨?_,?_,?_,?_,px fun q r z=> ?_⟩ ?_ fun g e U=>⟨j+1,⟨a,U⟩,?_,?_,by omega⟩
    ·have F:=hH Tr Ta SR s;exact qe
    ·(simp only[go_sem,FA,RA,aA,s])
    ·have F:=hH Ta RN.eq_1 Tk SR;exact qe
    ·have F:=g7 Ta RN.eq_1 Tk SR o
     (simp only[go_sem,F])
     exact MS (fun O=>(⟨0,O++_,_,false⟩:Row)) (zX fun k=>by simp only[go_sem])
    ·have F:=ai Ta RN.eq_1;exact qe
    ·have C:=nh c j q;rw[z]at C;have F:=ai Ta C;exact qe
    ·have F:=ai Ta m;exact qe
    ·exact KR c (j+1) g _ e
    exact KO c (j+1) g _ e
  | some q=>
    rw[L]at K;have b:=(pP L).2;rw[OJ]at b;have X:dH c j∈cy c j:=by rw[o];exact Lh b
    have J:cy c (j+1)=cy c j:=by
     show (if dH c j∈cy c j then _ else _)=_;rw[Lj X]
    have Q:(d7 c j f)[q]? =some [.agg [I t.src,I e], .row (q+6000) (f (q+6000))]:=by rw[dn,b];rfl
    have l:(d7 c j f).set q [.agg [I t.src,I e], .row (q+6000) (f (q+6000))]=d7 c j f:=CZ (p:=(t.src,e)) b;have v:=nh c j q;rw[cG,b]at v;simp only[MG]at v;have hrl:=Dq c j (t.src,e);have V:cI ((ib c j (t.src,e)).length+1) 8:=aC (by omega) (by omega);have F:=dk Tr Ta Tk SR SV n s Z @jd K Q<|hH l v V m;repeat refine st ?_
    refine lL fE ?_;repeat refine st ?_
    refine⟨_,cU.refl _,j+1,⟨a,?_⟩,?_,⟨?_,?_,?_,px fun k r z=> ?_⟩,by omega⟩
    ·exact qe
    ·have F:=hH Tr Ta SR s;exact qe
    ·have F:=fI Ta Tk SR;exact qe
    ·have F:=fI Ta Tk SR;exact qe
    ·have F:=hH Ta Tk SR l
     (simp only[go_sem,F])
     exact MS (fun O=>(⟨0,O,_,false⟩:Row)) (C1 (p:=(t.src,e)) J b (fun k E=>by rw[cD _ _ _ (by omega),cD _ _ _ (by omega),cD _ _ _ (by omega),cD _ _ _ (by omega)]) (aw ..))
    rw[xS J o (mh c j) b k]at z;by_cases N:k=q
    ·subst N;rw[Lj rfl]at z;cases z;have F:=fI Ta Tk SR;exact qe
    rw[Lf N]at z;have C:=nh c j k;rw[z]at C;have E: ¬(k+6000=q+6000):=by omega
    have F:=ip Ta Tk SR C E N;exact qe
 obtain rfl:j=c.trans.length:=by omega
 have n:=nl c.trans.length;obtain⟨e',u,H⟩:=Ce (c:=c) c.trans.length (g:=f) m;refine eh H ?_;have F:=g7 Tr LK.eq_1 SR n u;repeat refine st ?_
 refine nC 27 9100 0 8 27 1 ?_
 refine aG (D:=Nat) (fun i A=>[(2, .lit (.pointer none)),(3, .lit .nilIface),(4,aQ c),(6, .loc 27 (A 27) 0 0),(62,o' c.Z9),(63,I c.Z9.length),(64,I i)])
  (fun i A=>[(27,⟨9,[[Sg c.name,I c.initial,n7 c.vars,o' c.Z9,rk c.trans,aQ c, .seq 1 ((Fm c).map gF), .fmap (fB c), .row 9100 (A 9100)]],98,false⟩),(9100,⟨1,qO c i,27,true⟩)])
  (fun i _ d=>i<=c.Z9.length/\d 27=false/\d 9100=false) (fun i=>c.Z9.length-i) 0 ?_ ?_ ?_ ?_
 ·refine⟨Lx _,?_,?_⟩<;>simp only[go_sem,u]
 ·exact qe
 ·(simp only[go_sem,F])
  try rfl
 try clear n m u H hj a
 rintro i f d ⟨hi,m,M⟩;by_cases a:i<c.Z9.length
 ·have n:=h9 a;have s:=aD a (by omega);have f3:=my env c h 40 i a (by omega);have hbl:=JN h a
  have f4:b7 prog env 33 [aQ c, .seq 1 ((wd c i).map aB)] (.own 3 1 ((Rq c i).map aB)):=by
   rw[K7];exact fY env c h.toRight (zL (wd c i)) (by simp[zL];omega)
  have R:(qO c i).length=i:=by simp[qO]
  have S:qO c (i+1)=qO c i++[[.seq 1 ((Rq c i).map aB)]]:=by unfold qO;rw[Nn,Ln];rfl
  have V:cI (i+1) 24:=aC (by omega) (by omega);have F:=lP n s R V m M Tl;repeat refine vb f3 f4 ?_
  refine⟨i+1,⟨a,?_,?_⟩,?_,?_,by omega⟩
  ·simp only[go_sem,m]
  ·simp only[go_sem,M]
  ·exact qe
  have F:=ai S Tl;exact qe
 obtain rfl:i=c.Z9.length:=by omega
 have n:=nl c.Z9.length;have F:=fI n m M;repeat refine st ?_
 refine cT [(9100,⟨1,qO c c.Z9.length,27,true⟩)] ?_ ?_
 ·exact qe
 refine lB [(2, .loc 27 (f 27) 0 0),(3, .lit .nilIface)] [(27,⟨9,[ca c],98,false⟩)] ?_ ?_ ?_
 ·exact Sp
 ·have F:=ai Te Tl;exact qe
 have F:=ai Te @jd
 (refine aM ?_;show (ag _ _ _).run _=some _;simp only[go_sem,F])
 rfl
end
section
def v8(env:b6)(c:aq)(l:List lf):b7 prog env 99 [.agg (aA c),qs l] (B (bn l c.vars.length c.Z9.length)):=by
 have a:=kS env l c.vars.length c.Z9.length;unfold bn;refine qf func99 call99 ntmps99 results99 ?_;have F:=aA.eq_1;exact g9 a
def Fl{m:List UInt8}(h:bl m=true):(m == [])=false:=by
 cases m with
 |nil=>cases h
 |cons a l=>rfl
def H5(env:b6)(c:aq)(a:jn):b7 prog env 151 [.agg (aA c), .agg (az a)] (B (gC c.vars.length c.Z9.length a)):=by
 obtain⟨k,n,m,co⟩:=a;have b:=v8 env c co;have d:=eu env m;have f:bl m=true->(m == [])=false:=Fl;have e:((co.length:Int)==0)=(co == []):=ej co;have r: ∀p q:Prop,[Decidable p]->[Decidable q]->decide (p/\q)=(decide p&&decide q):=fun p q=>QX p q;refine qf func151 call151 ntmps151 results151 ?_;by_cases l:1<=k/\k<=5
 ·have l:k=1\/k=2\/k=3\/k=4\/k=5:=by omega
  rcases l with rfl|rfl|rfl|rfl|rfl
  all_goals
   have F:=pf SR S4 gC.eq_1 f e r jC @Q8 @Q6;exact m5 b d
 rw[show gC c.vars.length c.Z9.length ⟨k,n,m,co⟩=false by unfold gC;rw[Lf (by simp only;omega),Lf (by simp only;omega),Lf (by simp only;omega),Lf (by simp only;omega)]];have g:(k==2)=false:=dW (by omega);have h:(k==4)=false:=dW (by omega);have i:(k==5)=false:=dW (by omega);by_cases j:k<1
 ·have F:=pf SR S4 j g h i jC @Q8 @Q6;exact m5 b d
 have o:5<k:=by omega
 have F:=la SR S4 j o g h i jC @Q8 @Q6;exact m5 b d
def pB(env:b6)(c:aq)(l:List jn):b7 prog env 93 [.agg (aA c),i0 l] (B (eL c.vars.length c.Z9.length l)):=by
 refine qf func93 call93 ntmps93 results93 ?_;by_cases m:32<l.length
 ·have j:(32:Int)< (l.length:Int):=by omega
  rw[show eL c.vars.length c.Z9.length l=false by unfold eL;rw[MU (by omega)];rfl];have F:=ai SR j;exact dT
 have j: ¬(32:Int)< (l.length:Int):=by omega
 rw[show eL c.vars.length c.Z9.length l=l.all (gC c.vars.length c.Z9.length) by unfold eL;rw[M2 (by omega)];rfl];have F:=ai SR j;repeat refine st ?_
 refine lq l.length (by omega) (fun k o=>[(1,i0 l),(2, .loc 2 (o 2) 0 0),(5,I k)]) (fun _ _=>[(2,⟨5,[aA c],26,false⟩)]) (fun k _ _=>(l.take k).all (gC c.vars.length c.Z9.length)=true) rfl ?_ ?_
 ·rintro k p i e h n b;obtain⟨a,g,q⟩:=aS e;have d:=H5 env c a;cases f:gC c.vars.length c.Z9.length a with
  | true=>
    have F:=ip SR h n g S4 f;repeat refine ef d ?_
    exact qn (k+1) ⟨e,dl b g f⟩
  | false=>
    rw[mL g f];have F:=ip SR h n g S4 f;exact g9 d
 rintro p i h b;rw[tN b (by omega)];have F:=ai SR h;exact dT
def r7(env:b6)(c:aq)(s:na)(f:s.parent<c.Z9.length):b7 prog env 97 [.agg (aA c), .agg (aK s)] (B (cq c s)):=by
 refine qf func97 call97 ntmps97 results97 ?_;by_cases a:0<=s.parent
 ·obtain⟨m,b⟩:=fO a;obtain⟨q,d,_⟩:=aS (show m<c.Z9.length by omega);have e:=h9 (show m<c.Z9.length by omega);rw[show cq c s=(q.kind==1) by unfold cq;rw[b,bL,d]];have F:=g7 SR SS b d e;exact dT
 rw[show cq c s=false by unfold cq at_;rw[Lf a]];have F:=fI SR SS a;exact dT
def xM(env:b6)(c:aq)(l:List Nat)(w:l.length<=1000000)(m: ∀k∈l,k<c.Z9.length):b7 prog env 96 [.agg (aA c),Q' l] (B ((l.all fun k=>ax c k)&&decide (0<l.length))):=by
 refine qf func96 call96 ntmps96 results96 ?_;have F:=aA.eq_1;repeat refine st ?_
 refine lq l.length (by omega) (fun k u=>[(1,Q' l),(2, .loc 2 (u 2) 0 0),(5,I k)]) (fun _ _=>[(2,⟨5,[aA c],26,false⟩)]) (fun k _ _=>(l.take k).all (fun k=>ax c k)=true) rfl ?_ ?_
 ·rintro j v h b g r a;obtain⟨k,f,n⟩:=aS b;obtain⟨q,i,_⟩:=aS (m k n);have s:=h9 (m k n);have o:=ig env q;have d:ax c (k:Int)=eK q:=by unfold ax;rw[bL,i]
  cases e:eK q with
  | true=>
    have F:=pf SR g r s f i SU SS e;repeat refine ef o ?_
    exact qn (j+1) ⟨b,dl (p:=fun k:Nat=>ax c k) a f (d.trans e)⟩
  | false=>
    rw[mL (p:=fun k:Nat=>ax c k) f (d.trans e),M0];have F:=pf SR g r s f i SU SS e;exact g9 o
 rintro v h g a;rw[tN a (by omega),M5];have t:decide ((0:Int)< (l.length:Int))=decide (0<l.length):=by rw[MP];simp
 have F:=ai SR g;repeat refine st ?_
 (refine aM ?_;show (ag _ _ _).run _=some _;simp only[go_sem,F])
 exact MS B t
def H4(env:b6)(c:aq)(t:c.vars.length<=1000000)(i:Nat)(v:L7)(h:c.vars[i]? =some v):b7 prog env 52 [.agg (aA c),I i] (B (pd c i v)):=by
 have o:i<c.vars.length:=(Ld.1 h).1;have r:=h9 o;have f1:=eu env v.name;have f2:=d6 env v.start;refine qf func52 call52 ntmps52 results52 ?_;have F:=hH SR r h Tm;repeat refine st ?_
 refine lp (D:=Nat) (fun j m=>[(1,I i),(2, .loc 2 (m 2) 0 0),(5, .loc 5 (m 5) 0 0),(6,I j)]) (fun _ _=>[(2,⟨5,[aA c],26,false⟩),(5,⟨2,[iB v],143,false⟩)]) (fun j _ _=>j<=i/\newVar c v.name j=true) (fun j=>i-j) 0 ⟨Lx _,rfl⟩ ?_;rintro j u n ⟨s,b⟩;by_cases a:j<i
 ·obtain⟨x,d,_⟩:=aS (show j<c.vars.length by omega);have g:(c.vars.take i)[j]? =some x:=by rw[MV,Lj a];exact d
  have f:=h9 a;have l:=h9 (show j<c.vars.length by omega);have k:=aD a (by omega);cases e:(x.name==v.name)
  ·have F:=lP SR f k l d Tm e;repeat refine st ?_
   exact qn (j+1) ⟨a,pw b d e⟩
  rw[show pd c i v=false by unfold pd newVar;rw[mL (p:=fun x:L7=> !(x.name==v.name)) g (by rw[e];rfl)];rfl];have F:=lP SR f k l d Tm e;exact dT
 have f: ¬(j:Int)< (i:Int):=by omega
 obtain rfl:j=i:=by omega
 have q:pd c j v=(bl v.name&& !(v.name == [100,97,116,97])&& !(v.name == [105,110])&&aL v.start):=by
  unfold pd aL;rw[b];simp only[M5,QG]
 rw[q];have F:=fI f Tm jC;exact m5 f1 f2
end
section
def Jc{a:Type} [DecidableEq a](l:List a):(0< (l.length:Int))=((l == [])=false):=by
 rw[eq_iff_iff];cases l<;>simp
def pK(c:aq)(i:Int)(a:c.Z9.length<=1000000):(av c i true).length<=1000000:=Ly (dO c i true _) a
def zA(s:na)(l:List Nat):(∀n:Int,(s.kind=n)=((s.kind==n)=true))/\(((s.kind==4)=true\/(s.kind==5)=true)=(aU s=true))/\((l=[])=((l == [])=true)):=by
 refine⟨fun n=>by simp,by simp[aU],by simp⟩
def CB(env:b6)(c:aq)(a:c.Z9.length<=1000000)(i:Nat)(s:na)(e:c.Z9[i]? =some s):b7 prog env 53 [.agg (aA c),I i] (B (cJ c i s)):=by
 have A:i<c.Z9.length:=(Ld.1 e).1;have j:=h9 A;have f1:=eu env s.name;have f2:=F2 env c s.name a;have f3:=pB env c s.ZW;have f4:=pB env c s.out;have f5:=be env c (i:Int) true a;have f6:=be env c (i:Int) false a;have f7:=bo env s;have f8:=rf env (av c i true) s.initial (pK c i a);have f9:=xM env c (av c i true) (pK c i a) (fun k C=>(pJ C).1);have p:=ej (av c i true);have r:=Jc (av c i false);have t:=ej s.out;have u:=ej s.ZW;obtain⟨l,n,o⟩:=zA s (av c i true);by_cases E:s.parent<c.Z9.length/\0<=s.parent
 ·obtain⟨m,z⟩:=fO E.2;obtain⟨q,v,_⟩:=aS (show m<c.Z9.length by omega);have f: ¬(m:Int)<0:=by omega
  have p4:(0:Int)<=m:=by omega
  have g:((m:Int) == -1)=false:=dW (by omega);have p3:=h9 (show m<c.Z9.length by omega);have w:=ig env q;have d:ax c (m:Int)=eK q:=by unfold ax;rw[bL,v]
  have h:=r7 env c s (by omega);have x:=be env c (m:Int) true a;have y:=rf env (av c m true) s.initial (pK c m a);have b:decide ((m:Int)<i)= !decide ((i:Int)<=m):=by rw[MP];simp
  refine qf func53 call53 ntmps53 results53 ?_;by_cases p5:(i:Int)<=m
  ·have F:=dk SR SS j e z v f p3 p4 p5 g<|dk d p r t u l n o Tw Tq Tx<|fI b jC @ite_self.{1};exact L4 f1 f2 f3 f4 f5 f6 f7 f8 f9 w h x y
  have F:=dk SR SS j e z v f p3 p4 p5 g<|dk d p r t u l n o Tw Tq Tx<|fI b jC @ite_self.{1};exact L4 f1 f2 f3 f4 f5 f6 f7 f8 f9 w h x y
 refine qf func53 call53 ntmps53 results53 ?_;by_cases f:s.parent<0
 ·have h:=r7 env c s (by omega);have b: ¬0<=s.parent:=by omega
  have D:cq c s=false:=by unfold cq at_;rw[Lf b]
  have F:=dk SR SS j e f b D p r t u<|ns l n o Tw Tq Tx jC @ite_self.{1};exact Lb f1 f2 f3 f4 f5 f6 f7 f8 f9 h
 have b:(i:Int)<=s.parent:=by omega
 have p3: ¬s.parent<i:=by omega
 have p4:0<=s.parent:=by omega
 have g:(s.parent == -1)=false:=dW (by omega);have F:=dk SR SS j e f b p3 p4 g p r<|la t u l n o Tw Tq Tx jC @ite_self.{1};exact SO f1 f2 f3 f4 f5 f6 f7 f8 f9
end
section
def FU(env:b6)(c:aq)(t:sh):b7 prog env 55 [.agg (aA c), .agg (an t)] (B (d5 c t)):=by
 have f2:=eu env t.Z8;have f3:=v8 env c t.guard;have f4:=pB env c t.Z1;have j:=ej t.guard;refine qf func55 call55 ntmps55 results55 ?_;by_cases d:t.src<0
 ·rw[show d5 c t=false by unfold d5 ax at_;rw[Lf (show ¬0<=t.src by omega)];rfl];have F:=fI SR SV d;exact dT
 obtain⟨m,b⟩:=fO (show 0<=t.src by omega);have d: ¬(m:Int)<0:=by omega
 by_cases i:c.Z9.length<=m
 ·have a:(c.Z9.length:Int)<=(m:Int):=by omega
  rw[show d5 c t=false by unfold d5 ax;rw[b,bL,Lu i];rfl];have F:=g7 SR SV b d a;exact dT
 have a: ¬(c.Z9.length:Int)<=(m:Int):=by omega
 have g:=h9 (show m<c.Z9.length by omega);obtain⟨q,e,_⟩:=aS (show m<c.Z9.length by omega);have f1:=ig env q;have f:ax c t.src=eK q:=by unfold ax;rw[b,bL,e]
 have h:d5 c t=(eK q&&((t.Z8 == [])||bl t.Z8)&&((t.guard == [])||bn t.guard c.vars.length c.Z9.length)&&eL c.vars.length c.Z9.length t.Z1&&((t.target == -1)||(decide (0<=t.target)&&decide (t.target<c.Z9.length)))):=by unfold d5;rw[f]
 rw[h];by_cases p3:t.target< -1
 ·rw[show ((t.target == -1)||(decide (0<=t.target)&&decide (t.target<c.Z9.length)))=false by rw[dW (show t.target≠ -1 by omega),MU (show ¬0<=t.target by omega)];rfl,Mj];have F:=pf SR SV SS b e d a g p3;exact g9 f1
 by_cases p4:(c.Z9.length:Int)<=t.target
 ·rw[show ((t.target == -1)||(decide (0<=t.target)&&decide (t.target<c.Z9.length)))=false by rw[dW (show t.target≠ -1 by omega),MU (show ¬t.target<c.Z9.length by omega)];simp,Mj];have F:=la SR SV SS b e d a g p3 p4;exact g9 f1
 rw[show ((t.target == -1)||(decide (0<=t.target)&&decide (t.target<c.Z9.length)))=true by rw[Mx,Li];simp;omega,Pn];have F:=dk SR SV SS b e d a g p3 p4 j jC;exact RG f1 f2 f3 f4
abbrev RZ(c:aq):AV:= .tuple [I (nv c).1,I (nv c).2]
def dh{c:aq}{x:Int×Int}(h:nv c=x):RZ c= .tuple [I x.1,I x.2]:=by unfold RZ;rw[h]
def CG(env:b6)(c:aq):b7 prog env 27 [.agg (aA c)] (RZ c):=by
 have h:=eu env c.name;have T:=ej c.Z9;refine qf func27 call27 ntmps27 results27 ?_;by_cases U:32<c.Z9.length
 ·have w:(32:Int)< (c.Z9.length:Int):=by omega
  rw[dh (show nv c=(8, -1) by unfold nv;rw[Lj (.inl U)])];have F:=ai SR w;exact dT
 have w: ¬(32:Int)< (c.Z9.length:Int):=by omega
 by_cases V:64<c.trans.length
 ·have y:(64:Int)< (c.trans.length:Int):=by omega
  rw[dh (show nv c=(8, -1) by unfold nv;rw[Lj (.inr (.inl V))])];have F:=fI SR w y;exact dT
 have y: ¬(64:Int)< (c.trans.length:Int):=by omega
 by_cases W:8<c.vars.length
 ·have C:(8:Int)< (c.vars.length:Int):=by omega
  rw[dh (show nv c=(8, -1) by unfold nv;rw[Lj (.inr (.inr W))])];have F:=hH SR w y C;exact dT
 have C: ¬(8:Int)< (c.vars.length:Int):=by omega
 have M: ¬(32<c.Z9.length\/64<c.trans.length\/8<c.vars.length):=by omega
 cases A:(c.Z9 == [])
 case true=>
  rw[dh (show nv c=(1, -1) by unfold nv;rw[Lf M,Lj (.inl (by simpa using A))])];have F:=ip SR w y C T A;exact g9 h
 cases G:bl c.name
 ·rw[dh (show nv c=(1, -1) by unfold nv;rw[Lf M,Lj (.inr G)])];have F:=lP SR w y C T A G;exact g9 h
 have N: ¬(c.Z9=[]\/bl c.name=false):=by
  rw[G];simpa using A
 have f:nv c=(match bD (ja c) c.vars.length with
  |some i=>(1,2000+(i:Int))
  | none=>match bD (lY c) c.Z9.length with
    |some i=>(1,(i:Int))
    | none=>if mO c=false then(1, -1) else match bD (qb c) c.trans.length with
      |some i=>(1,1000+(i:Int))
      |none=>(0, -1)):=by
  unfold nv;rw[Lf M,Lf N];rfl
 have F:=lP SR w y C T A G;repeat refine ef h ?_
 refine aG (D:=Nat) (fun i E=>[(1, .loc 1 (E 1) 0 0),(4,I i)]) (fun _ _=>[(1,⟨5,[aA c],26,false⟩)]) (fun i _ _=>i<=c.vars.length/\ ∀j,j<i->ja c j=true) (fun i=>c.vars.length-i) 0 ?_ ?_ ?_ ?_
 ·exact⟨Lx _,fun j B=>by omega⟩
 ·exact qe
 ·have F:=aA.eq_1;exact qe
 rintro i z l ⟨J,a⟩;by_cases b:i<c.vars.length
 ·obtain⟨v,Q,_⟩:=aS b;have g:=h9 b;have r:=aD b (by omega);have d:=H4 env c (by omega) i v Q;cases e:pd c i v
  ·have S:IntKind.i64.wrap (2000+(i:Int))=2000+(i:Int):=aW (by omega) (by omega);rw[dh (show nv c=(1,2000+(i:Int)) by rw[f,dK b a (by rw[lX Q];exact e)])];have F:=g7 SR g r S e;exact g9 d
  have F:=hH SR g r e;repeat refine ef d ?_
  refine⟨i+1,⟨b,ge a (by rw[lX Q];exact e)⟩,?_,?_,?_⟩
  ·exact qe
  ·have F:=aA.eq_1;exact qe
  omega
 have g: ¬(i:Int)< (c.vars.length:Int):=by omega
 have R:bD (ja c) c.vars.length=none:=bI fun j B=>a j (by omega);rw[R]at f;have F:=ai SR g;repeat refine st ?_
 refine aG (D:=Nat) (fun i E=>[(1, .loc 1 (E 1) 0 0),(5,I i)]) (fun _ _=>[(1,⟨5,[aA c],26,false⟩)]) (fun i _ _=>i<=c.Z9.length/\ ∀j,j<i->lY c j=true) (fun i=>c.Z9.length-i) 0 ?_ ?_ ?_ ?_
 ·exact⟨Lx _,fun j B=>by omega⟩
 ·exact qe
 ·have F:=aA.eq_1;exact qe
 try clear z l J a g b i
 rintro i z l ⟨J,a⟩;by_cases b:i<c.Z9.length
 ·obtain⟨s,O,_⟩:=aS b;have g:=h9 b;have r:=aD b (by omega);have d:=CB env c (by omega) i s O;cases e:cJ c i s
  ·rw[dh (show nv c=(1,(i:Int)) by rw[f,dK b a (by rw[o4 O];exact e)])];have F:=hH SR g r e;exact g9 d
  have F:=hH SR g r e;repeat refine ef d ?_
  refine⟨i+1,⟨b,ge a (by rw[o4 O];exact e)⟩,?_,?_,?_⟩
  ·exact qe
  ·have F:=aA.eq_1;exact qe
  omega
 have g: ¬(i:Int)< (c.Z9.length:Int):=by omega
 have P:bD (lY c) c.Z9.length=none:=bI fun j B=>a j (by omega);rw[P]at f;by_cases X:c.initial<0
 ·have p:mO c=false:=by unfold mO at_;rw[Lf (by omega)]
  rw[dh (show nv c=(1, -1) by rw[f,Lj p])];have F:=fI SR g X;exact dT
 obtain⟨m,u⟩:=fO (show 0<=c.initial by omega);have o: ¬(m:Int)<0:=by omega
 by_cases L:(c.Z9.length:Int)<=(m:Int)
 ·have p:mO c=false:=by unfold mO;rw[u,bL,Lu (by omega)]
  rw[dh (show nv c=(1, -1) by rw[f,Lj p])];have F:=g7 SR g u o L;exact dT
 have p3:=h9 (show m<c.Z9.length by omega);obtain⟨q,K,_⟩:=aS (show m<c.Z9.length by omega);have k:=ig env q;have n:mO c=((q.parent == -1)&&eK q):=by unfold mO;rw[u,bL,K]
 cases x:(q.parent == -1)
 ·rw[dh (show nv c=(1, -1) by rw[f,Lj (by rw[n,x];rfl)])];have F:=la SR SS g u o L p3 K x jC;exact g9 k
 cases H:eK q
 ·rw[dh (show nv c=(1, -1) by rw[f,Lj (by rw[n,x,H];rfl)])];have F:=pc SR SS g u o L p3 K x H jC;exact g9 k
 rw[Lf (by rw[n,x,H];simp)]at f;have F:=pc SR SS g u o L p3 K x H jC;repeat refine ef k ?_
 have F:=ai SR u;refine lq c.trans.length (by omega) (fun i E=>[(1, .loc 1 (E 1) 0 0),(6,I i)]) (fun _ _=>[(1,⟨5,[aA c],26,false⟩)]) (fun i _ _=> ∀j,j<i->qb c j=true) (fun j B=>by omega) ?_ ?_
 ·try clear z l J a g b i
  rintro i z l b g r a;obtain⟨t,p,_⟩:=aS b;have d:=FU env c t;cases e:d5 c t
  ·have S:IntKind.i64.wrap (1000+(i:Int))=1000+(i:Int):=aW (by omega) (by omega);rw[dh (show nv c=(1,1000+(i:Int)) by rw[f,dK b a (by rw[o0 p];exact e)])];have F:=lP SR SV g r S p e;exact g9 d
  have F:=ip SR SV g r p e;repeat refine ef d ?_
  refine⟨i+1,⟨b,ge a (by rw[o0 p];exact e)⟩,?_,?_,?_⟩
  ·exact qe
  ·have F:=aA.eq_1;exact qe
  omega
 try clear z l J a g b i
 rintro z l g a;rw[dh (show nv c=(0, -1) by rw[f,bI fun j B=>a j (by omega)])];have F:=ai SR g;exact dT
end
section
def xF(env:b6)(l m:List Nat)(v:l.length<=1000000):b7 prog env 19 [.seq 1 (l.map aB), .seq 1 (m.map aB)] (B (decide (l=m))):=by
 by_cases s:l.length=m.length
 ·refine qf func19 call19 ntmps19 results19 ?_;have n:((l.length:Int) != (m.length:Int))=false:=by simp[s]
  have F:=n;repeat refine st ?_
  refine lq l.length (by omega) (fun j _=>[(0, .seq 1 (l.map aB)),(1, .seq 1 (m.map aB)),(4,B false),(5,I j)]) (fun _ _=>[]) (fun j _ _=>l.take j=m.take j) rfl ?_ ?_
  ·rintro j u k f h q p;have c:j<m.length:=by omega
   obtain⟨a,d⟩:=gE f;obtain⟨b,i⟩:=gE c;have r:=h9 c;by_cases e:a=b
   ·have o:((a:Int) != (b:Int))=false:=by simp[e]
    have F:=lP h q r d i SU o;repeat refine st ?_
    refine⟨j+1,⟨f,?_⟩,?_,?_,by omega⟩
    ·rw[MM,MM,p,d,i,e]
    ·exact qe
    exact qe
   have o:((a:Int) != (b:Int))=true:=by simp;omega
   have g:decide (l=m)=false:=MU fun t=>e (by rw[t]at d;exact NQ (d.symm.trans i));rw[g];have F:=lP h q r d i SU o;exact dT
  rintro u k h p;have g:decide (l=m)=true:=M2 (by rwa [MC,M8 (by omega)]at p);rw[g];have F:=h;exact dT
 have n:((l.length:Int) != (m.length:Int))=true:=by simp;omega
 have g:decide (l=m)=false:=MU fun e=>s (by rw[e]);rw[g];refine qf func19 call19 ntmps19 results19 ?_;have F:=n;exact dT
def rc(env:b6)(c:aq)(i:Int):b7 prog env 116 [.agg (aA c),I i] (B (ed c i)):=by
 unfold ed;by_cases a:0<=i
 ·by_cases b:i< (c.Z9.length:Int)
  ·refine qf func116 call116 ntmps116 results116 ?_;have F:=fI SR a b;exact dT
  refine qf func116 call116 ntmps116 results116 ?_;have F:=fI SR a b;exact dT
 refine qf func116 call116 ntmps116 results116 ?_;have F:=ai SR a;exact dT
def bC{c:aq}(h:Right c)(i:Int)(a:Bool):(av c i a).length<=32:=by
 have b:=dO c i a c.Z9.length;have d:=h.Z6;have b:(av c i a).length<=c.Z9.length:=b;omega
def tX{c:aq}(h:Right c){i:Int}(hi: -1<=i):(gc c i).length<=32:=by
 have b:=h.Z6;have:=(jm h 40 i hi (by omega)).length_le_of_subset (l₂:=List.range c.Z9.length) fun m a=>MK.2 ((jX h 40 i m hi (by omega)).1 a).1;simp at this;omega
def IF{a b:Type}(f:a->List b)(K:List a)(j:Nat):((K.take j).flatMap f).length<=(K.flatMap f).length:=by
 have e:(K.take j).flatMap f++(K.drop j).flatMap f=K.flatMap f:=by rw[<-N8,Nw]
 have:=MS List.length e;simp only[Ll]at this;omega
def GW{a c:Type}(f:a->List c){K:List a}{j:Nat}{k:a}(b:K[j]? =some k):(K.take (j+1)).flatMap f=(K.take j).flatMap f++f k:=by rw[MM,b,N8];simp
def oz(env:b6)(c:aq)(h:Right c): ∀(n:Nat)(i:Int), -1<=i->(c.Z9.length:Int)<=i+n->b7 prog env 186 [.agg (aA c),I i] (.own 3 1 ((gc c i).map aB))
 | n,i,t,o=>by
   have u:=h.Z6;have f0:=be env c i false (by omega);have w:=DE h t;have q:=tX h t;have x:=bC h i false;have g: ∀k∈av c i false,i< (k:Int)/\k<c.Z9.length:=fun k b=>bH h b;generalize av c i false=K at*;rw[w]at q;refine qf func186 call186 ntmps186 results186 ?_;have F:=aA.eq_1;repeat refine ef f0 ?_
   have F:=aA.eq_1;refine lq K.length (by omega) (fun j s=>[(2, .loc 2 (s 2) 0 0),(5, .row 8 (s 8)),(6, .row 11 (s 11)),(7,I j)]) (fun j _=>[(2,⟨5,[aA c],26,false⟩),(8,⟨1,((K.take j).flatMap fun k=>k::gc c k).map aB,3,true⟩),(11,⟨1,K.map aB,3,true⟩)]) (fun j _ a=>a 8=false) rfl ?_ ?_
   ·rintro j B a d r z f;obtain⟨k,b⟩:=gE d;have y:=g k (Lh b)
    match n,o with
    |0,o=>omega
    |n+1,o=>
    have f1:=oz env c h n k (by omega) (by omega);have v:=IF (fun k=>k::gc c k) K (j+1);have e:=GW (fun k=>k::gc c k) b;rw[e]at v;simp only[Ll,MB]at v;generalize C:(K.take j).flatMap (fun k=>k::gc c k)=A at*;have l:cI (A.length+1) 8:=aC (by omega) (by omega);have m:cI (A.length+1+(gc c k).length) 8:=aC (by omega) (by omega);have F:=ns SR SU b r z l m f;repeat refine ef f1 ?_
    refine⟨j+1,⟨d,by simp only[go_sem,f]⟩,?_,?_,by omega⟩
    ·exact qe
    have F:=g7 SR SU e @Ln.{0,0} @M4.{0};exact qe
   rintro B a r f;have p:K.take K.length=K:=MC;rw[w];have F:=hH SU r p f;exact dT
termination_by n=>n
def Ai(l W:List Nat)(j:Nat):List Nat:=(W.take j).filter fun k:Nat=>DH l (k:Int)
def GM{l W:List Nat}{j k:Nat}(h:W[j]? =some k):Ai l W (j+1)=if DH l (k:Int) then Ai l W j++[k] else Ai l W j:=by
 unfold Ai;rw[MM,h,MR];cases a:DH l (k:Int)<;>simp[a]
def IA(l W:List Nat)(j:Nat):(Ai l W j).length<=W.length:=by
 unfold Ai;exact Ly (MF ..) (by rw[Lw];omega)
def LS(l:List Nat)(n:Int):DH l n=(zL l).contains n:=by
 rw[MP,og,Lk];unfold zL;rw[Lp]
def Ex{c:aq}{l:List Nat}{j k:Nat}(h:((zL l).take j).all (ed c)=true)(a:l[j]? =some k)(b:ed c k=true):((zL l).take (j+1)).all (ed c)=true:=by
 have:(zL l)[j]? =some ((k:Nat):Int):=by unfold zL;rw[Lo,a];rfl
 exact AD h this b
def lM(env:b6)(c:aq)(h:Right c)(l:List Nat)(x:l.length<=1000000):b7 prog env 128 [.agg (aA c), .seq 1 (l.map aB)] (.own 3 1 ((bt c (zL l)).map aB)):=by
 have s:=h.Z6;refine qw func128 call128 ntmps128 results128 ?_;have F:=aA.eq_1;repeat refine st ?_
 refine aG (D:=Nat) (fun j q=>[(1, .seq 1 (l.map aB)),(2, .loc 2 (q 2) 0 0),(5,I j)]) (fun _ _=>[(2,⟨5,[aA c],26,false⟩)]) (fun j _ _=>j<=l.length/\((zL l).take j).all (ed c)=true) (fun j=>l.length-j) 0 ?_ ?_ ?_ ?_
 ·exact⟨Lx _,rfl⟩
 ·exact qe
 ·have F:=aA.eq_1;exact qe
 rintro j t e ⟨w,b⟩;by_cases a:j<l.length
 ·obtain⟨k,f⟩:=gE a;have d:=h9 a;have m:=aD a (by omega);have f0:=rc env c k;cases p:ed c k with
  | false=>
    rw[p]at f0;have F:=g7 SR SU d m f;repeat refine ef f0 ?_
    (refine aM ?_;refine⟨_,(by show (ag _ _ _).run _=some _;simp only[go_sem,F];rfl),?_⟩)
    rw[show bt c (zL l)=[] from AG (show (zL l)[j]? =some ((k:Nat):Int) by unfold zL;rw[Lo,f];rfl) p];exact fX.own_nil _ _ (by decide)
  | true=>
    rw[p]at f0;have F:=g7 SR SU d m f;repeat refine ef f0 ?_
    exact qn (j+1) ⟨a,Ex b f p⟩
 obtain rfl:j=l.length:=by omega
 have d:=nl l.length;have f1:=oz env c h 40 (-1) (by omega) (by omega);have v:=tX h (show (-1:Int)<= -1 by omega);have b:(zL l).all (ed c)=true:=by rwa [M8 (by simp[zL])]at b
 have g:bt c (zL l)=Ai l (gc c (-1)) (gc c (-1)).length:=by
  unfold bt Ai;rw[Lj b,MC];apply NR;intro k _;rw[LS]
 rw[g];generalize gc c (-1)=W at*;have F:=ai SR d;repeat refine ef f1 ?_
 refine lq W.length (by omega) (fun j q=>[(1, .seq 1 (l.map aB)),(6, .row 22 (q 22)),(7, .row 24 (q 24)),(8,I j)]) (fun j _=>[(22,⟨1,(Ai l W j).map aB,3,true⟩),(24,⟨1,W.map aB,3,true⟩)]) (fun j _ e=>e 22=false) rfl ?_ ?_
 ·try clear d
  rintro j t e a d m i;obtain⟨k,f⟩:=gE a;have f0:=rf env l k (by omega);have u:=IA l W j;have r:cI ((Ai l W j).length+1) 8:=aC (by omega) (by omega);have o:=GM (l:=l) f;cases n:DH l k with
  | true=>
    rw[n]at f0;rw[n,Lj rfl]at o;have F:=ip SU d m f r i;repeat refine ef f0 ?_
    refine⟨j+1,⟨a,by simp only[go_sem,i]⟩,?_,?_,by omega⟩
    ·exact qe
    have F:=fI SU o @Ln.{0,0};exact qe
  | false=>
    rw[n]at f0;rw[n,Lf MW]at o;have F:=ip SU d m f r i;repeat refine ef f0 ?_
    refine⟨j+1,⟨a,by simp only[go_sem,i]⟩,?_,?_,by omega⟩
    ·exact qe
    have F:=fI SU o @Ln.{0,0};exact qe
 try clear d
 rintro t e d i;have F:=ai d i;repeat refine st ?_
 (refine aM ?_;refine⟨_,(by show (ag _ _ _).run _=some _;simp only[go_sem,F];rfl),?_⟩)
 exact fX.refl _
end
end Go.Proofs.YtknkhdgfhbogdaaGreatDoor
