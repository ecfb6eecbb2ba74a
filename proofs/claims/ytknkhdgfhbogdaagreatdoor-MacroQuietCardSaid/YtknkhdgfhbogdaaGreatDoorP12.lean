/- A tree as rows of a call's own; the walk. -/
import Derived.Test.YtknkhdgfhbogdaaGreatDoorP11
set_option maxRecDepth 100000
set_option maxHeartbeats 8000000
set_option linter.unusedSimpArgs false
set_option linter.defProp false
namespace Go.Proofs.YtknkhdgfhbogdaaGreatDoor
open Go.Proofs.Tryz
section
open Go.RowKit
def aB(k:Nat):List AV:=[I k]
def SU:=@aB.eq_1
abbrev Q'(l:List Nat):AV:= .seq 1 (l.map aB)
def idxFrom:List Nat->Int->Nat->Int
 |[],_,_=> -1
 |x::l,v,k=>if (x:Int)=v then k else idxFrom l v (k+1)
def Cd(l:List Nat)(v:Int):Int:=idxFrom l v 0
def Aj{l:List Nat}{v:Int}{k x:Nat}(h:l[k]? =some x)(a:Cd l v=idxFrom (l.drop k) v k):((x:Int)=v->Cd l v=k)/\((x:Int)≠v->Cd l v=idxFrom (l.drop (k+1)) v (k+1)):=by
 have b:k<l.length:=(Ld.1 h).1
 have c:l.drop k=x::l.drop (k+1):=by
  rw[N1 b]
  congr 1
  rw[Lc b]at h;exact NQ h
 rw[c]at a;simp only[idxFrom]at a;exact⟨fun e=>by rw[a,Lj e],fun e=>by rw[a,Lf e]⟩
def EJ{l:List Nat}{v:Int}{k:Nat}(h:l.length<=k)(a:Cd l v=idxFrom (l.drop k) v k):Cd l v= -1:=by
 rw[a,List.drop_eq_nil_of_le h];rfl
def D7(v:Int): ∀(l:List Nat)(k:Nat),decide (0<=idxFrom l v k)=DH l v
 |[],k=>rfl
 | x::l,k=>by
   have c:=D7 v l (k+1);have b:DH (x::l) v=(((x:Int)==v)||DH l v):=rfl;rw[b, <-c];by_cases e:(x:Int)=v
   ·have a:idxFrom (x::l) v k=k:=Lj e;rw[MP];simp[a,e]
   have a:idxFrom (x::l) v k=idxFrom l v (k+1):=Lf e;rw[MP];simp[a,e]
def GL(env:b6)(l:List Nat)(v:Int)(o:l.length<=1000000):b7 prog env 146 [Q' l,I v] (I (Cd l v)):=by
 refine qf func146 call146 ntmps146 results146 ?_;repeat refine m8 ?_
 refine PA l.length (by omega) (fun k _=>[(0,Q' l),(1,I v),(7,I l.length),(8,I k)]) (fun _ _=>[]) (fun k _ _=>Cd l v=idxFrom (l.drop k) v k) rfl ?_ ?_
 ·rintro k n c a b j d;obtain⟨x,f,_⟩:=aS a;obtain⟨i,m⟩:=Aj f d;by_cases e:(x:Int)=v
  ·rw[i e];have g:(v==(x:Int))=true:=by simp[e]
   have F:=g7 b j g f SU;exact dT
  have g:(v==(x:Int))=false:=by simpa using fun h=>e h.symm
  have F:=g7 b j g f SU;repeat refine st ?_
  exact qn (k+1) ⟨a,m e⟩
 rintro n c b d;rw[EJ (by omega) d];have F:=b;exact dT
def jl(env:b6)(l:List Nat)(v:Int)(a:l.length<=1000000):b7 prog env 88 [Q' l,I v] (B (DH l v)):=by
 have h:=D7 v l 0;refine qf func88 call88 ntmps88 results88 ?_;repeat refine jL (GL env l v a) ?_
 (refine aM ?_;show (ag _ _ _).run _=some _;simp only[go_sem])
 exact MS B h
def rf(env:b6)(l:List Nat)(v:Int)(n:l.length<=1000000):b7 prog env 95 [Q' l,I v] (B (DH l v)):=by
 rw[<-D7 v l 0,show idxFrom l v 0=Cd l v from rfl];refine qf func95 call95 ntmps95 results95 ?_;repeat refine m8 ?_
 refine PA l.length (by omega) (fun k _=>[(0,Q' l),(1,I v),(5,I k)]) (fun _ _=>[]) (fun k _ _=>Cd l v=idxFrom (l.drop k) v k) rfl ?_ ?_
 ·rintro k m c a b i d;obtain⟨x,f,_⟩:=aS a;obtain⟨h,j⟩:=Aj f d;by_cases e:(x:Int)=v
  ·rw[h e,M2 (Int.natCast_nonneg k)];have g:((x:Int)==v)=true:=by simp[e]
   have F:=g7 b i g f SU;exact dT
  have g:((x:Int)==v)=false:=by simpa using e
  have F:=g7 b i g f SU;repeat refine st ?_
  exact qn (k+1) ⟨a,j e⟩
 rintro m c b d;rw[EJ (by omega) d];have F:=b;exact dT
/-! Kids -/
def uC{c:aq}{k:Nat}{s:na}(b:c.Z9[k]? =some s)(i:Int)(a:Bool):dI c i a k=((s.parent==i)&&(!a|| !aU s)):=by unfold dI;rw[b]
def lQ{c:aq}{i:Int}{a:Bool}{k:Nat}(h:dI c i a k=true):(bg c i a (k+1)).map aB=(bg c i a k).map aB++[[I k]]:=by
 rw[qD,h,Lj rfl,Ln];rfl
def jQ{c:aq}{i:Int}{a:Bool}{k:Nat}(h:dI c i a k=false):(bg c i a (k+1)).map aB=(bg c i a k).map aB:=by
 rw[qD,h];simp
def gk(env:b6)(c:aq)(i:Int)(r:c.Z9.length<=1000000):b7 prog env 57 [.agg (aA c),I i] (.own 3 1 ((av c i true).map aB)):=by
 refine qf func57 call57 ntmps57 results57 ?_;have F:=aA.eq_1;repeat refine st ?_
 refine am 5 5 3 1 ?_;refine aG (D:=Nat) (fun k q=>[(1,I i),(5, .row 5 (q 5)),(9,o' c.Z9),(10,I c.Z9.length),(11,I k)]) (fun k _=>[(5,⟨1,(bg c i true k).map aB,3,true⟩)]) (fun k _ m=>k<=c.Z9.length/\m 5=false) (fun k=>c.Z9.length-k) 0 ?_ ?_ ?_ ?_
 ·exact⟨Lx _,rfl⟩
 ·exact qe
 ·(simp only[go_sem,F])
  simp[bg]
 rintro k u m ⟨t,n⟩;by_cases b:k<c.Z9.length
 ·obtain⟨s,h,_⟩:=aS b;have f:=h9 b;have l:=aD b (by omega);have d:=uC h i true;have o:=dO c i true k;have p:cI ((bg c i true k).length+1) 8:=⟨by omega,by omega⟩;cases e:(s.parent==i) with
  | false=>
    have a:=jQ (show dI c i true k=false by rw[d,e];rfl);have F:=g7 f l h SS e;repeat refine ef (jh env s) ?_
    refine⟨k+1,⟨b,by simp only[go_sem,n]⟩,?_,?_,?_⟩
    ·exact qe
    ·have F:=ip f l h SS e a;exact qe
    omega
  | true=>
    cases j:aU s with
    | true=>
      have a:=jQ (show dI c i true k=false by rw[d,e,j];rfl);have F:=ip f l h SS e j;repeat refine ef (jh env s) ?_
      refine⟨k+1,⟨b,by simp only[go_sem,n]⟩,?_,?_,?_⟩
      ·exact qe
      ·have F:=lP f l h SS e j a;exact qe
      omega
    | false=>
      have g:=lQ (show dI c i true k=true by rw[d,e,j];rfl);have F:=lP f l h SS e j p;repeat refine ef (jh env s) ?_
      refine⟨k+1,⟨b,by simp only[go_sem,n]⟩,?_,?_,?_⟩
      ·exact qe
      ·have F:=lP f l h SS e j g;exact qe
      omega
 have f: ¬(k:Int)< (c.Z9.length:Int):=by omega
 obtain rfl:k=c.Z9.length:=by omega
 have F:=ai f n;repeat refine st ?_
 (refine aM ?_;show (ag _ _ _).run _=some _;simp only[go_sem,F])
 rfl
def pC(env:b6)(c:aq)(i:Int)(q:c.Z9.length<=1000000):b7 prog env 109 [.agg (aA c),I i] (.own 3 1 ((av c i false).map aB)):=by
 refine qf func109 call109 ntmps109 results109 ?_;have F:=aA.eq_1;repeat refine st ?_
 refine am 5 5 3 1 ?_;refine aG (D:=Nat) (fun k p=>[(1,I i),(5, .row 5 (p 5)),(9,o' c.Z9),(10,I c.Z9.length),(11,I k)]) (fun k _=>[(5,⟨1,(bg c i false k).map aB,3,true⟩)]) (fun k _ h=>k<=c.Z9.length/\h 5=false) (fun k=>c.Z9.length-k) 0 ?_ ?_ ?_ ?_
 ·exact⟨Lx _,rfl⟩
 ·exact qe
 ·(simp only[go_sem,F])
  simp[bg]
 rintro k t h ⟨r,m⟩;by_cases a:k<c.Z9.length
 ·obtain⟨s,j,_⟩:=aS a;have g:=h9 a;have l:=aD a (by omega);have b:=uC j i false;have n:=dO c i false k;have o:cI ((bg c i false k).length+1) 8:=⟨by omega,by omega⟩;cases f:(s.parent==i) with
  | false=>
    have e:=jQ (show dI c i false k=false by rw[b,f];rfl);have F:=g7 g l j SS f;repeat refine st ?_
    refine⟨k+1,⟨a,by simp only[go_sem,m]⟩,?_,?_,?_⟩
    ·exact qe
    ·have F:=ip g l j SS f e;exact qe
    omega
  | true=>
    have d:=lQ (show dI c i false k=true by rw[b,f];rfl);have F:=ip g l j SS f o;repeat refine st ?_
    refine⟨k+1,⟨a,by simp only[go_sem,m]⟩,?_,?_,?_⟩
    ·exact qe
    ·have F:=ip g l j SS f d;exact qe
    omega
 have g: ¬(k:Int)< (c.Z9.length:Int):=by omega
 obtain rfl:k=c.Z9.length:=by omega
 have F:=ai g m;repeat refine st ?_
 (refine aM ?_;show (ag _ _ _).run _=some _;simp only[go_sem,F])
 rfl
def be(env:b6)(c:aq)(i:Int)(a:Bool)(t:c.Z9.length<=1000000):b7 prog env 94 [.agg (aA c),I i,B a] (.own 3 1 ((av c i a).map aB)):=by
 refine qf func94 call94 ntmps94 results94 ?_;have F:=aA.eq_1;repeat refine st ?_
 refine aG (D:=Nat) (fun k r=>[(1,I i),(2,B a),(3, .loc 3 (r 3) 0 0),(7, .row 9 (r 9)),(8,I k)]) (fun k _=>[(3,⟨5,[aA c],26,false⟩),(9,⟨1,(bg c i a k).map aB,3,true⟩)]) (fun k _ n=>k<=c.Z9.length/\n 9=false) (fun k=>c.Z9.length-k) 0 ?_ ?_ ?_ ?_
 ·exact⟨Lx _,rfl⟩
 ·exact qe
 ·(simp only[go_sem,F])
  simp[bg]
 rintro k v n ⟨u,o⟩;by_cases b:k<c.Z9.length
 ·obtain⟨s,j,_⟩:=aS b;have h:=h9 b;have l:=aD b (by omega);have f:=uC j i a;have q:=dO c i a k;have p:cI ((bg c i a k).length+1) 8:=⟨by omega,by omega⟩;cases g:(s.parent==i) with
  | false=>
    have e:=jQ (show dI c i a k=false by rw[f,g];rfl);have F:=ip SR h l j SS g;repeat refine ef (bo env s) ?_
    refine⟨k+1,⟨b,by simp only[go_sem,o]⟩,?_,?_,?_⟩
    ·exact qe
    ·have F:=lP SR h l j SS g e;exact qe
    omega
  | true=>
    cases a with
    | false=>
      have d:=lQ (show dI c i false k=true by rw[f,g];rfl);have F:=lP SR h l j SS g p;repeat refine ef (bo env s) ?_
      refine⟨k+1,⟨b,by simp only[go_sem,o]⟩,?_,?_,?_⟩
      ·exact qe
      ·have F:=lP SR h l j SS g d;exact qe
      omega
    | true=>
      cases m:aU s with
      | true=>
        have e:=jQ (show dI c i true k=false by rw[f,g,m];rfl);have F:=lP SR h l j SS g m;repeat refine ef (bo env s) ?_
        refine⟨k+1,⟨b,by simp only[go_sem,o]⟩,?_,?_,?_⟩
        ·exact qe
        ·have F:=ns SR h l j SS g m e;exact qe
        omega
      | false=>
        have d:=lQ (show dI c i true k=true by rw[f,g,m];rfl);have F:=ns SR h l j SS g m p;repeat refine ef (bo env s) ?_
        refine⟨k+1,⟨b,by simp only[go_sem,o]⟩,?_,?_,?_⟩
        ·exact qe
        ·have F:=ns SR h l j SS g m d;exact qe
        omega
 have h: ¬(k:Int)< (c.Z9.length:Int):=by omega
 obtain rfl:k=c.Z9.length:=by omega
 have F:=fI SR h o;repeat refine st ?_
 (refine aM ?_;show (ag _ _ _).run _=some _;simp only[go_sem,F])
 rfl
/-! The state of a name -/
def Fc(env:b6)(c:aq)(a:List UInt8)(l:c.Z9.length<=1000000):b7 prog env 157 [.agg (aA c),Sg a] (I (vI c a)):=by
 refine qf func157 call157 ntmps157 results157 ?_;have F:=aA.eq_1;repeat refine st ?_
 refine lq c.Z9.length (by omega) (fun k _=>[(1,Sg a),(8,o' c.Z9),(9,I c.Z9.length),(10,I k)]) (fun _ _=>[]) (fun k _ _=>eT c a k= -1) rfl ?_ ?_
 ·rintro k j h b g i e;obtain⟨s,f,_⟩:=aS b;cases d:(s.name==a) with
  | true=>
    rw[wP c a b e s f (by simpa using d)];have F:=g7 g i f SS d;exact dT
  | false=>
    have F:=g7 g i f SS d;repeat refine st ?_
    exact qn (k+1) ⟨b,qK c a e s f (by simpa using d)⟩
 rintro j h g e;rw[show vI c a= -1 from e];have F:=g;exact dT
def F2(env:b6)(c:aq)(a:List UInt8)(m:c.Z9.length<=1000000):b7 prog env 92 [.agg (aA c),Sg a] (I (vI c a)):=by
 refine qf func92 call92 ntmps92 results92 ?_;have F:=aA.eq_1;repeat refine st ?_
 refine lq c.Z9.length (by omega) (fun k j=>[(1,Sg a),(2, .loc 2 (j 2) 0 0),(5,I k)]) (fun _ _=>[(2,⟨5,[aA c],26,false⟩)]) (fun k _ _=>eT c a k= -1) rfl ?_ ?_
 ·rintro k l h b g i e;obtain⟨s,f,_⟩:=aS b;cases d:(s.name==a) with
  | true=>
    rw[wP c a b e s f (by simpa using d)];have F:=ip SR g i f SS d;exact dT
  | false=>
    have F:=ip SR g i f SS d;repeat refine st ?_
    exact qn (k+1) ⟨b,qK c a e s f (by simpa using d)⟩
 rintro l h g e;rw[show vI c a= -1 from e];have F:=ai SR g;exact dT
def ve(env:b6)(d e:Addr)(g:fq env d e)(c:aq)(l:List lf):b7 prog env 161 [.agg (aA c),qs l] (B (bn l c.vars.length c.Z9.length)):=by
 have a:=gd env d e g l c.vars.length c.Z9.length;unfold iA at a;refine qf func161 call161 ntmps161 results161 ?_;by_cases b:iM l c.vars.length c.Z9.length=0
 ·rw[Lj b]at a;rw[show bn l c.vars.length c.Z9.length=true by simp[bn,b]];have F:=aA.eq_1;exact g9 a
 rw[Lf b]at a;rw[show bn l c.vars.length c.Z9.length=false by simp[bn,b]];by_cases f:iM l c.vars.length c.Z9.length=8
 ·rw[Lj f]at a;have F:=aA.eq_1;exact g9 a
 rw[Lf f]at a;have F:=aA.eq_1;exact g9 a
def dW{a b:Int}(h:a≠b):(a==b)=false:=by simpa using h
def Ha(env:b6)(g i:Addr)(z:fq env g i)(c:aq)(a:jn)(y:a.name.length<=9223372036854775807):b7 prog env 210 [.agg (aA c), .agg (az a)] (B (gC c.vars.length c.Z9.length a)):=by
 obtain⟨k,n,m,co⟩:=a;have b:=ve env g i z c co;have d:=du env m y;refine qf func210 call210 ntmps210 results210 ?_
 have e:((co.length:Int)==0)=(co == []):=by
  rw[MP];simp
 have A: ∀p q:Prop,[Decidable p]->[Decidable q]->decide (p/\q)=(decide p&&decide q):=fun p q=>QX p q;by_cases f:k=1\/k=2\/k=3\/k=4\/k=5
 ·rcases f with rfl|rfl|rfl|rfl|rfl
  all_goals
   have F:=g7 SR S4 gC.eq_1 e A;exact m5 b d
 simp only[QD]at f;obtain⟨j,l,o,r,s⟩:=f;rw[show gC c.vars.length c.Z9.length ⟨k,n,m,co⟩=false by unfold gC;rw[Lf j,Lf (fun h=>h.elim l r),Lf o,Lf s]];have t:=dW j;have u:=dW l;have v:=dW o;have w:=dW r;have x:=dW s;have F:=lP SR S4 t u v w x;exact dT
def dl{a:Type}{l:List a}{p:a->Bool}{i:Nat}{x:a}(h:(l.take i).all p=true)(e:l[i]? =some x)(d:p x=true):(l.take (i+1)).all p=true:=by
 obtain⟨b,c⟩:=Ld.1 e;rw[Nl b,Oo,h,c];simp[d]
def mL{a:Type}{l:List a}{p:a->Bool}{i:Nat}{x:a}(c:l[i]? =some x)(b:p x=false):l.all p=false:=by
 rw[OL];intro h;rw[Lm]at h;rw[h _ (Lh c)]at b;cases b
def tN{a:Type}{l:List a}{p:a->Bool}{i:Nat}(h:(l.take i).all p=true)(hi:l.length<=i):l.all p=true:=by
 rwa [M8 hi]at h
def pE(env:b6)(i j:Addr)(q:fq env i j)(c:aq)(l:List jn)(r:l.length<=9223372036854775807)(p: ∀a∈l,a.name.length<=9223372036854775807):b7 prog env 160 [.agg (aA c),i0 l] (B (eL c.vars.length c.Z9.length l)):=by
 refine qf func160 call160 ntmps160 results160 ?_;have F:=aA.eq_1;repeat refine st ?_
 refine lp (D:=Nat) (fun k t=>[(1,i0 l),(2, .loc 2 (t 2) 0 0),(7,i0 l),(8,I l.length),(9,I k)]) (fun _ _=>[(2,⟨5,[aA c],26,false⟩)]) (fun k _ _=>k<=l.length/\(l.take k).all (gC c.vars.length c.Z9.length)=true) (fun k=>l.length-k) 0 ⟨Lx _,rfl⟩ ?_;rintro k v n ⟨u,e⟩;by_cases b:k<l.length
 ·obtain⟨a,g,s⟩:=aS b;have h:=h9 b;have m:=aD b r;have d:=Ha env i j q c a (p a s);cases f:gC c.vars.length c.Z9.length a with
  | true=>
    have F:=ip SR h m g S4 f;repeat refine ef d ?_
    exact qn (k+1) ⟨b,dl e g f⟩
  | false=>
    rw[show eL c.vars.length c.Z9.length l=false by unfold eL;rw[mL g f];simp];have F:=ip SR h m g S4 f;exact g9 d
 have h: ¬(k:Int)< (l.length:Int):=by omega
 have o:decide ((l.length:Int)<=32)=decide (l.length<=32):=by rw[MP];simp;omega
 rw[show eL c.vars.length c.Z9.length l=decide (l.length<=32) by unfold eL;rw[tN e (by omega)];simp];have F:=ai SR h;repeat refine st ?_
 (refine aM ?_;show (ag _ _ _).run _=some _;simp only[go_sem,F])
 exact MS B o
def xl(env:b6)(c:aq)(i:Int):b7 prog env 104 [.agg (aA c),I i] (B (decide (0<=i)&&decide (i<c.Z9.length))):=by
 refine qf func104 call104 ntmps104 results104 ?_;by_cases a:0<=i<;>by_cases b:i< (c.Z9.length:Int)<;>
 ·have F:=fI SR a b;exact dT
def DS.ifl(t:TypeId)(v:Value):DS (.lit (.iface t v)) (.iface t (.lit v)):=fun S w u h=>by
 obtain rfl:=h.lit_inv;exact .iface t v (.lit v) (.lit v)
def DS.lfi(t:TypeId)(v:Value):DS (.iface t (.lit v)) (.lit (.iface t v)):=fun S w u h=>by
 cases h with
 | iface _ a _ h=>
   obtain rfl:=h.lit_inv;exact .lit _
def lW(s p:AV)(q:Int)(c:p=I q)(e a:AV)(b:DS a e):fX (.iface 138 (.ref 3 [[s,p,a]] 0 0)) (fc q e):=by
 subst c;exact .of (.iface (.ref1 (cs:=[.any,I q,e]) (.cons (.any _) (.cons (.refl _) (.cons b .nil))))) (fun _ _ _ h=>by cases h) (fun _ _ _ h=>by cases h)
def yE(env:b6)(s:List UInt8)(p:Int)(a:Addr)(c: -1<=p):b7 prog env 156 [Sg s,I p,cf a] (fc p (cf a)):=by
 refine b7.args (cs:=[Sg s,I p, .iface 324 (.lit (.pointer (some a)))]) ?_ (.cons (.refl _) (.cons (.refl _) (.cons (.ifl _ _) .nil)));have b: ¬p< -1:=by omega
 refine qw func156 call156 ntmps156 results156 ?_;have F:=b;repeat refine st ?_
 (refine aM ?_;refine⟨_,(by show (ag _ _ _).run _=some _;simp only[go_sem,F];rfl),?_⟩)
 exact lW _ _ _ rfl _ _ (.lfi _ _)
def nz(env:b6)(a b:Addr)(d:fq env a b)(p:Int)(e: -1<=p):b7 prog env 101 [I p] (fc p (cf a)):=by
 have c:=iH d.e1;refine qf func101 call101 ntmps101 results101 ?_;have F:=c;repeat (first|refine st ?_|refine cC (yE env _ p a e) ?_)
 exact aR
def jy{c:aq}{m:Nat}{q:na}(h:c.Z9[m]? =some q):ax c (m:Int)=eK q:=by unfold ax;rw[bL,h]
def fO{n:Int}(h:0<=n): ∃m:Nat,n=m:=⟨n.toNat,by omega⟩
def zV(env:b6)(c:aq)(i:Nat)(s:na)(a:c.Z9[i]? =some s):b7 prog env 158 [.agg (aA c),I i] (B (dB c i s)):=by
 have l:i<c.Z9.length:=(Ld.1 a).1;have d:=h9 l;refine qf func158 call158 ntmps158 results158 ?_;by_cases e:0<=s.parent/\s.parent<i
 ·obtain⟨m,n⟩:=fO e.1;obtain⟨q,f,_⟩:=aS (show m<c.Z9.length by omega);have o:(0:Int)<=m:=by omega
  have p:(m:Int)<i:=by omega
  have r:=h9 (show m<c.Z9.length by omega);have t:=jy f;have g:((m:Int) == -1)=false:=dW (by omega);have j:=im env q;have F:=dk SR d a SS n g o p r t f Tq;exact g9 j
 by_cases b:0<=s.parent
 ·have k: ¬s.parent<i:=fun h=>e ⟨b,h⟩;have F:=lP SR d a SS b k Tq;exact dT
 have F:=ip SR d a SS b Tq;exact dT
def CM(env:b6)(c:aq)(s:na)(g:s.parent<c.Z9.length):b7 prog env 209 [.agg (aA c), .agg (aK s)] (B (cq c s)):=by
 refine qf func209 call209 ntmps209 results209 ?_;by_cases b:0<=s.parent
 ·obtain⟨m,d⟩:=fO b;have a:m<c.Z9.length:=by omega
  obtain⟨q,e,_⟩:=aS a;have f:=h9 a;rw[show cq c s=(q.kind==1) by unfold cq;rw[d,bL,e]];have F:=g7 SR SS d f e;exact dT
 rw[show cq c s=false by unfold cq at_;rw[Lf b]];have F:=fI SR SS b;exact dT
def Ej{a b:Nat}(c:a<=9223372036854775807)(d:b<=9223372036854775807):IntKind.i64.wrap ((a:Int)+(b:Int))=0↔a+b=0:=by
 by_cases h:a+b<9223372036854775808
 ·rw[aW (by omega) (by omega)];omega
 have:IntKind.i64.wrap ((a:Int)+(b:Int))=(a:Int)+(b:Int)-18446744073709551616:=by
  simp[IntKind.wrap,IntKind.bits,IntKind.signed];omega
 omega
def ej{a:Type} [DecidableEq a](l:List a):((l.length:Int)==0)=(l == []):=by
 rw[MP];simp
def F8{c:aq}{i:Nat}{s:na}(hi:i<c.Z9.length)(h:dB c i s=true):s.parent<c.Z9.length:=by
 unfold dB at h;simp only[Mx,Mh,Li,Lt]at h;omega
def Jp{c:aq}{i:Int}{a:Bool}{j k:Nat}(h:(av c i a)[j]? =some k): ∃q,c.Z9[k]? =some q/\k<c.Z9.length:=by
 have b:=pJ (Lh h);obtain⟨q,d,_⟩:=aS b.1;exact⟨q,d,b.1⟩
def CL(env:b6)(c:aq)(i:Nat)(s:na)(w:c.Z9[i]? =some s)(z:c.Z9.length<=1000000)(W:s.parent<c.Z9.length)(H:s.ZW.length<=9223372036854775807)(J:s.out.length<=9223372036854775807):b7 prog env 159 [.agg (aA c),I i] (B (dG c i s)):=by
 have V:i<c.Z9.length:=(Ld.1 w).1;have A:=h9 V;have a:=gk env c i z;have o:=gk env c s.parent z;have l:=pC env c i z;have e:=CM env c s W;have K:(av c i true).length<=1000000:=Ly (dO c i true _) z;have x:(av c s.parent true).length<=1000000:=Ly (dO c s.parent true _) z;have y:=jl env (av c i true) s.initial K;have u:=jl env (av c s.parent true) s.initial x;have Z:=ej (av c i true);have O:=ej (av c i false);have z3:=ej s.out;refine qf func159 call159 ntmps159 results159 ?_;by_cases d:s.kind=1
 ·have v:dG c i s=(if av c i true=[] then s.initial == -1 else DH (av c i true) s.initial):=by unfold dG;rw[Lj d]
  rw[v];have X:(av c i true=[])=((av c i true == [])=true):=by simp
  have Y:(av c i true == [])=true->DH (av c i true) s.initial=false:=fun h=>by rw[show av c i true=[] by simpa using h];rfl
  have F:=ns SR A w SS d Z X Y;exact m5 a y
 have P:=dW d;by_cases f:s.kind=2
 ·have v:dG c i s=(((av c i true).all fun k=>ax c k)&&decide (0< (av c i true).length)&&(s.initial == -1)):=by unfold dG;rw[Lf d,Lj f]
  rw[v];have F:=g7 SR A w SS f;repeat refine ef a ?_
  refine lp (D:=Nat) (fun j G=>[(1,I i),(2, .loc 2 (G 2) 0 0),(5, .loc 5 (G 5) 0 0),(6, .row 16 (G 16)),(18,I 2),(37, .row 16 (G 16)),(38,I (av c i true).length),(39,I j)]) (fun _ _=>[(2,⟨5,[aA c],26,false⟩),(5,⟨6,[aK s],62,false⟩),(16,⟨1,(av c i true).map aB,3,true⟩)]) (fun j _ _=>j<=(av c i true).length/\((av c i true).take j).all (fun k=>ax c k)=true) (fun j=>(av c i true).length-j) 0 ⟨Lx _,rfl⟩ ?_;rintro j ws U ⟨hj,p⟩;by_cases n:j< (av c i true).length
  ·obtain⟨k,hk,_⟩:=aS n;obtain⟨q,E,L⟩:=Jp hk;have C:=h9 n;have M:=aD n (by omega);have N:=h9 L;have m:=im env q;cases r:eK q
   ·rw[show ((av c i true).all fun k=>ax c k)=false from mL hk (by rw[jy E];exact r),M0,M0];have F:=pf SR C M N hk E SU SS r;exact g9 m
   have F:=pf SR C M N hk E SU SS r;repeat refine ef m ?_
   exact qn (j+1) ⟨n,dl p hk (by rw[jy E];exact r)⟩
  have C: ¬(j:Int)< ((av c i true).length:Int):=by omega
  rw[tN p (by omega),M5];have z4:decide ((0:Int)< ((av c i true).length:Int))=decide (0< (av c i true).length):=by rw[MP];simp
  cases r:decide (0< (av c i true).length)
  ·have t: ¬(0:Int)< ((av c i true).length:Int):=by simpa using r
   have F:=hH SR C SS t;exact dT
  have t:(0:Int)< ((av c i true).length:Int):=by simpa using r
  have F:=hH SR C SS t;exact dT
 have Q:=dW f;by_cases g:s.kind=3
 ·have v:dG c i s=((av c i false == [])&&((s.parent == -1)||cq c s)&&(s.initial == -1)&&(s.out == [])):=by unfold dG;rw[Lf d,Lf f,Lj g]
  rw[v];have F:=lP SR A w SS g O z3;exact x5 a l e
 have R:=dW g;by_cases b:s.kind=4\/s.kind=5
 ·have v:dG c i s=((av c i false == [])&&cq c s&&DH (av c s.parent true) s.initial&&(s.ZW == [])&&(s.out == [])):=by unfold dG;rw[Lf d,Lf f,Lf g,Lj b]
  rw[v]
  have z5:(IntKind.i64.wrap ((s.ZW.length:Int)+(s.out.length:Int))==0)=((s.ZW == [])&&(s.out == [])):=by
   rw[MP];simp only[Mh,Li, <-NE,Ej H J];omega
  rw[QG _ (s.ZW == []), <-z5];rcases b with hk|hk
  all_goals
   have F:=ip SR A w SS hk O;exact SA a l e o u
 have S:=dW (fun h=>b (.inl h));have T:=dW (fun h=>b (.inr h));rw[show dG c i s=false by unfold dG;rw[Lf d,Lf f,Lf g,Lf b]];have F:=pf SR A w SS P Q R S T;exact g9 a
def qZ(a b:Addr)(c:aq):AV:=if (nv c).1=0 then h8 else if (nv c).1=8 then fc (nv c).2 (cf b) else fc (nv c).2 (cf a)
def wj{a b:Addr}{c:aq}{p:Int}(h:nv c=(0,p)):qZ a b c=h8:=by unfold qZ;rw[h];rfl
def mr{b a:Addr}{c:aq}{p:Int}(h:nv c=(8,p)):qZ b a c=fc p (cf a):=by unfold qZ;rw[h];rfl
def cm{a b:Addr}{c:aq}{p:Int}(h:nv c=(1,p)):qZ a b c=fc p (cf a):=by unfold qZ;rw[h];rfl
def lX{c:aq}{i:Nat}{v:L7}(h:c.vars[i]? =some v):ja c i=pd c i v:=by unfold ja;rw[h]
def o4{c:aq}{i:Nat}{s:na}(h:c.Z9[i]? =some s):lY c i=cJ c i s:=by unfold lY;rw[h]
def o0{c:aq}{i:Nat}{t:sh}(h:c.trans[i]? =some t):qb c i=d5 c t:=by unfold qb;rw[h]
def ge{p:Nat->Bool}{i:Nat}(h: ∀j,j<i->p j=true)(hi:p i=true): ∀j,j<i+1->p j=true:=fun j a=>by
 by_cases e:j=i
 ·rw[e];exact hi
 exact h j (by omega)
def Fe(env:b6)(z r:Addr)(J:fq env z r)(c:aq)(hc:j6 c)
 (hV:c.vars.length<=8-> ∀(i:Nat)(v:L7),c.vars[i]? =some v->b7 prog env 102 [.agg (aA c),I i] (B (pd c i v)))
 (hS:c.Z9.length<=32-> ∀(i:Nat)(s:na),c.Z9[i]? =some s->b7 prog env 103 [.agg (aA c),I i] (B (cJ c i s)))
 (hT: ∀t,t∈c.trans->b7 prog env 106 [.agg (aA c), .agg (an t)] (B (d5 c t))):b7 prog env 56 [.agg (aA c)] (qZ z r c):=by
 have T:=iH J.e8;have k:=du env c.name (by have:=hc.1;unfold maxLen at this;omega);have d:=nz env z r J (-1) (by omega);have o:=xl env c c.initial;have z1:=ej c.Z9;refine qf func56 call56 ntmps56 results56 ?_;by_cases l1:32<c.Z9.length
 ·have y:(32:Int)< (c.Z9.length:Int):=by omega
  rw[mr (show nv c=(8, -1) by unfold nv;rw[Lj (.inl l1)])];have F:=fI SR y T;repeat (first|refine st ?_|refine cC (bh env _ r) ?_)
  exact aR
 have y: ¬(32:Int)< (c.Z9.length:Int):=by omega
 by_cases l2:64<c.trans.length
 ·have C:(64:Int)< (c.trans.length:Int):=by omega
  rw[mr (show nv c=(8, -1) by unfold nv;rw[Lj (.inr (.inl l2))])];have F:=hH SR y C T;repeat (first|refine st ?_|refine cC (bh env _ r) ?_)
  exact aR
 have C: ¬(64:Int)< (c.trans.length:Int):=by omega
 by_cases l3:8<c.vars.length
 ·have L:(8:Int)< (c.vars.length:Int):=by omega
  rw[mr (show nv c=(8, -1) by unfold nv;rw[Lj (.inr (.inr l3))])];have F:=g7 SR y C L T;repeat (first|refine st ?_|refine cC (bh env _ r) ?_)
  exact aR
 have L: ¬(8:Int)< (c.vars.length:Int):=by omega
 have U: ¬(32<c.Z9.length\/64<c.trans.length\/8<c.vars.length):=by omega
 cases G:bl c.name
 ·rw[cm (show nv c=(1, -1) by unfold nv;rw[Lf U,Lj (.inr G)])];have F:=g7 SR y C L G;exact m5 k d
 cases N:(c.Z9 == [])
 case true=>
  rw[cm (show nv c=(1, -1) by unfold nv;rw[Lf U,Lj (.inl (by simpa using N))])];have F:=lP SR y C L G z1 N;exact m5 k d
 have V: ¬(c.Z9=[]\/bl c.name=false):=by
  rw[G];simpa using N
 have g:nv c=(match bD (ja c) c.vars.length with
  |some i=>(1,2000+(i:Int))
  | none=>match bD (lY c) c.Z9.length with
    |some i=>(1,(i:Int))
    | none=>if mO c=false then(1, -1) else match bD (qb c) c.trans.length with
      |some i=>(1,1000+(i:Int))
      |none=>(0, -1)):=by
  unfold nv;rw[Lf U,Lf V];rfl
 have F:=lP SR y C L G z1 N;repeat refine vb k d ?_
 refine lp (D:=Nat) (fun i M=>[(1, .loc 1 (M 1) 0 0),(38,I c.vars.length),(39,I i)]) (fun _ _=>[(1,⟨5,[aA c],26,false⟩)]) (fun i _ _=>i<=c.vars.length/\ ∀j,j<i->ja c j=true) (fun i=>c.vars.length-i) 0 ⟨Lx _,fun j K=>by omega⟩ ?_;rintro i E n ⟨P,a⟩;by_cases b:i<c.vars.length
 ·obtain⟨v,Z,_⟩:=aS b;have h:=h9 b;have x:=aD b (by omega);have f:=hV (by omega) i v Z;cases e:pd c i v
  ·have q3:IntKind.i64.wrap (2000+(i:Int))=2000+(i:Int):=aW (by omega) (by omega);have H:=nz env z r J (2000+(i:Int)) (by omega);rw[cm (show nv c=(1,2000+(i:Int)) by rw[g,dK b a (by rw[lX Z];exact e)])];have F:=g7 SR h x q3 e;exact m5 f H
  have F:=hH SR h x e;repeat refine ef f ?_
  exact qn (i+1) ⟨b,ge a (by rw[lX Z];exact e)⟩
 have h: ¬(i:Int)< (c.vars.length:Int):=by omega
 have hvn:bD (ja c) c.vars.length=none:=bI fun j K=>a j (by omega);rw[hvn]at g;have F:=ai SR h;repeat refine st ?_
 refine lp (D:=Nat) (fun i M=>[(1, .loc 1 (M 1) 0 0),(52,I c.Z9.length),(53,I i)]) (fun _ _=>[(1,⟨5,[aA c],26,false⟩)]) (fun i _ _=>i<=c.Z9.length/\ ∀j,j<i->lY c j=true) (fun i=>c.Z9.length-i) 0 ⟨Lx _,fun j K=>by omega⟩ ?_;try clear E n P a h b i
 rintro i E n ⟨P,a⟩;by_cases b:i<c.Z9.length
 ·obtain⟨s,W,_⟩:=aS b;have h:=h9 b;have x:=aD b (by omega);have f:=hS (by omega) i s W;cases e:cJ c i s
  ·have H:=nz env z r J (i:Int) (by omega);rw[cm (show nv c=(1,(i:Int)) by rw[g,dK b a (by rw[o4 W];exact e)])];have F:=hH SR h x e;exact m5 f H
  have F:=hH SR h x e;repeat refine ef f ?_
  exact qn (i+1) ⟨b,ge a (by rw[o4 W];exact e)⟩
 have h: ¬(i:Int)< (c.Z9.length:Int):=by omega
 have X:bD (lY c) c.Z9.length=none:=bI fun j K=>a j (by omega);rw[X]at g;by_cases R:0<=c.initial
 case neg=>
  have w:mO c=false:=by unfold mO at_;rw[Lf R]
  rw[cm (show nv c=(1, -1) by rw[g,Lj w])];have F:=fI SR h R;exact m5 o d
 obtain⟨m,u⟩:=fO R;by_cases S:(m:Int)< (c.Z9.length:Int)
 case neg=>
  have w:mO c=false:=by unfold mO;rw[u,bL,Lu (by omega)]
  have p2':(c.initial< (c.Z9.length:Int))=False:=by rw[u];simpa using S
  rw[cm (show nv c=(1, -1) by rw[g,Lj w])];have F:=hH SR h R p2';exact m5 o d
 obtain⟨q,Q,_⟩:=aS (show m<c.Z9.length by omega);have l:=im env q;have p:mO c=((q.parent == -1)&&eK q):=by unfold mO;rw[u,bL,Q]
 rw[u]at o;cases A:(q.parent == -1)
 ·rw[cm (show nv c=(1, -1) by rw[g,Lj (by rw[p,A];rfl)])];have F:=ns SR SS h u S Q A jC;exact x5 o d l
 cases O:eK q
 ·rw[cm (show nv c=(1, -1) by rw[g,Lj (by rw[p,A,O];rfl)])];have F:=pf SR SS h u S Q A O jC;exact x5 o d l
 rw[Lf (by rw[p,A,O];simp)]at g;have F:=pf SR SS h u S Q A O jC;repeat refine Qs o d l ?_
 have F:=ai SR u;refine lq c.trans.length (by omega) (fun i M=>[(1, .loc 1 (M 1) 0 0),(90,rk c.trans),(91,I c.trans.length),(92,I i)]) (fun _ _=>[(1,⟨5,[aA c],26,false⟩)]) (fun i _ _=> ∀j,j<i->qb c j=true) (fun j K=>by omega) ?_ ?_
 ·try clear E n P a h b i
  rintro i E n b h x a;obtain⟨t,w,Y⟩:=aS b;have f:=hT t Y;cases e:d5 c t
  ·have q3:IntKind.i64.wrap (1000+(i:Int))=1000+(i:Int):=aW (by omega) (by omega);have H:=nz env z r J (1000+(i:Int)) (by omega);rw[cm (show nv c=(1,1000+(i:Int)) by rw[g,dK b a (by rw[o0 w];exact e)])];have F:=lP SR SV h x q3 w e;exact m5 f H
  have F:=ip SR SV h x w e;repeat refine ef f ?_
  exact qn (i+1) ⟨b,ge a (by rw[o0 w];exact e)⟩
 try clear E n P a h b i
 rintro E n h a;rw[wj (show nv c=(0, -1) by rw[g,bI fun j K=>a j (by omega)])];have F:=ai SR h;exact dT
def oG{n:Nat}(h:n<=maxLen):n<=9223372036854775807:=by unfold maxLen at h;omega
def jc{l:List jn}(h:l.length<=maxLen/\ ∀y∈l,iI y):l.length<=9223372036854775807/\ ∀a∈l,a.name.length<=9223372036854775807:=⟨oG h.1,fun a b=>oG (h.2 a b).1⟩
def CK(env:b6)(d e:Addr)(g:fq env d e)(c:aq)(j:c.Z9.length<=1000000)(i:Nat)(s:na)(b:c.Z9[i]? =some s)(a:uq s):b7 prog env 103 [.agg (aA c),I i] (B (cJ c i s)):=by
 have h:i<c.Z9.length:=(Ld.1 b).1;have k:=h9 h;have f1:=du env s.name (oG a.1);have f2:=Fc env c s.name j;have f3:=zV env c i s b;have f5:=pE env d e g c s.ZW (jc a.2.1).1 (jc a.2.1).2;have f6:=pE env d e g c s.out (jc a.2.2).1 (jc a.2.2).2;unfold cJ;refine qf func103 call103 ntmps103 results103 ?_;cases f:dB c i s
 ·have F:=g7 SR k b SS f;exact x5 f1 f2 f3
 have f4:=CL env c i s b j (F8 h f) (oG a.2.1.1) (oG a.2.2.1);have F:=g7 SR k b SS f;exact Sn f1 f2 f3 f4 f5 f6
def pw{c:aq}{nm:List UInt8}{j:Nat}{x:L7}(h:newVar c nm j=true)(a:c.vars[j]? =some x)(e:(x.name==nm)=false):newVar c nm (j+1)=true:=by
 unfold newVar at h |-;exact dl h a (by rw[e];rfl)
def H9(env:b6)(c:aq)(w:c.vars.length<=1000000)(i:Nat)(v:L7)(h:c.vars[i]? =some v)(n:om v):b7 prog env 102 [.agg (aA c),I i] (B (pd c i v)):=by
 have o:i<c.vars.length:=(Ld.1 h).1;have r:=h9 o;have s:(i:Int)<=(c.vars.length:Int):=by omega
 have f1:=du env v.name (oG n);have f2:=dD env v.start;have a:(c.vars.take i).length=i:=by rw[Lw];omega
 refine qf func102 call102 ntmps102 results102 ?_;have F:=lP SR r s h Tm a OJ;repeat refine st ?_
 refine lp (D:=Nat) (fun j t=>[(5, .loc 5 (t 5) 0 0),(16,n7 (c.vars.take i)),(17,I i),(18,I j)]) (fun _ _=>[(5,⟨2,[iB v],143,false⟩)]) (fun j _ _=>j<=i/\newVar c v.name j=true) (fun j=>i-j) 0 ⟨Lx _,rfl⟩ ?_;rintro j y m ⟨u,d⟩;by_cases b:j<i
 ·obtain⟨x,k,_⟩:=aS (show j<c.vars.length by omega);have f:(c.vars.take i)[j]? =some x:=by rw[MV,Lj b];exact k
  have g:=h9 b;have l:=aD b (by omega);cases e:(x.name==v.name)
  ·have F:=ip g l f a Tm e;repeat refine st ?_
   exact qn (j+1) ⟨b,pw d k e⟩
  rw[show pd c i v=false by unfold pd newVar;rw[mL (p:=fun x:L7=> !(x.name==v.name)) f (by rw[e];rfl)];rfl];have F:=ip g l f a Tm e;exact dT
 have g: ¬(j:Int)< (i:Int):=by omega
 obtain rfl:j=i:=by omega
 have q:pd c j v=(bl v.name&& !(v.name == [100,97,116,97])&& !(v.name == [105,110])&&aL v.start):=by
  unfold pd aL;rw[d];simp only[M5,QG]
 rw[q];have F:=fI g Tm jC;exact m5 f1 f2
def Fa(env:b6)(d e:Addr)(i:fq env d e)(c:aq)(t:sh)(f:uo t):b7 prog env 106 [.agg (aA c), .agg (an t)] (B (d5 c t)):=by
 have f1:=xl env c t.src;have f3:=du env t.Z8 (oG f.1);have f4:=ve env d e i c t.guard;have f5:=pE env d e i c t.Z1 (jc f.2.2).1 (jc f.2.2).2;have f6:=xl env c t.target;have l:=ej t.guard;by_cases b:0<=t.src
 case neg=>
  rw[show d5 c t=false by unfold d5 ax at_;rw[Lf b];rfl];refine qf func106 call106 ntmps106 results106 ?_;have F:=fI SR SV b;exact g9 f1
 obtain⟨m,a⟩:=fO b;by_cases h:(m:Int)< (c.Z9.length:Int)
 case neg=>
  rw[show d5 c t=false by unfold d5 ax;rw[a,bL,Lu (by omega)];rfl];have g:(t.src< (c.Z9.length:Int))=False:=by rw[a];simpa using h
  refine qf func106 call106 ntmps106 results106 ?_;have F:=hH SR SV b g;exact g9 f1
 obtain⟨q,j,_⟩:=aS (show m<c.Z9.length by omega);have f2:=im env q;have k:d5 c t=(eK q&&((t.Z8 == [])||bl t.Z8)&&((t.guard == [])||bn t.guard c.vars.length c.Z9.length)&&eL c.vars.length c.Z9.length t.Z1&&((t.target == -1)||(decide (0<=t.target)&&decide (t.target<c.Z9.length)))):=by unfold d5;rw[a,jy j]
 rw[k];rw[a]at f1;refine qf func106 call106 ntmps106 results106 ?_;have F:=lP SR SV SS a h j l;exact Sn f1 f2 f3 f4 f5 f6
end
section
open Go.RowKit Go.ChangeShapes
def CN(env:b6)(a b:Addr)(e:fq env a b)(c:aq)(d:j6 c):b7 prog env 56 [.agg (aA c)] (qZ a b c):=
 Fe env a b e c d (fun h i v g=>H9 env c (by omega) i v g (d.2.1.2 v (Lh g))) (fun h i s f=>CK env a b e c (by omega) i s f (d.2.2.1.2 s (Lh f))) (fun t j=>Fa env a b e c t (d.2.2.2.2 t j))
end
section
open Go.RowKit
def mu:List Nat->Nat->List Nat->List Nat
 |[],_,a=>a
 |k::l,n,a=>mu l (n+1) (a.set k n)
def pr: ∀(l:List Nat)(n:Nat)(a:List Nat),(mu l n a).length=a.length
 |[],_,_=>rfl
 |k::l,n,a=>by unfold mu;rw[pr,Nh]
def pt: ∀(a b:List Nat)(n:Nat)(c:List Nat),mu (a++b) n c=mu b (n+a.length) (mu a n c)
 |[],_,_,_=>rfl
 | k::a,b,n,c=>by
   show mu (a++b) (n+1) (c.set k n)=mu b (n+(a.length+1)) (mu a (n+1) (c.set k n));rw[pt,Ot,QR 1]
def TR(ps ks c a:List (List AV))(b:Value)(g:Nat->Nat)(d l:List Nat):List (Nat×Row):=
 [(1000,⟨7,[[.seq 1 ps, .seq 1 ks, .seq 1 c, .seq 1 a, .row 1001 (g 1001), .row 1002 (g 1002), .lit b]],135,false⟩),(1001,⟨1,d.map aB,3,true⟩),(1002,⟨1,l.map aB,3,true⟩)]
def Ts:=@TR.eq_1
def C'(c:aq)(K:List Nat)(j:Nat):List Nat:=(K.take j).flatMap fun k=>k::gc c k
def El{c:aq}{K:List Nat}{j k:Nat}(h:K[j]? =some k):C' c K (j+1)=C' c K j++k::gc c k:=by
 unfold C';rw[MM,h,N8];simp
def HM{c:aq}(K:List Nat):C' c K K.length=K.flatMap fun k=>k::gc c k:=by
 unfold C';rw[MC]
def J0{c:aq}(K:List Nat)(j:Nat):(C' c K j).length<=(K.flatMap fun k=>k::gc c k).length:=by
 conv=>rhs;rw[<-Nw j K,N8,Ll]
 exact QN _ _
def yh(P:Program)(env:b6)(f:FuncId)(c:aq)(ps ks d a:List (List AV))(b:Value)(i:Int)(l e:List Nat):Prop:=
 hU P env f [1000,1001,1002] (fun k=>k==1002) (fun g=>[.loc 1000 (g 1000) 0 0, .agg (aA c),I i]) (fun g=>TR ps ks d a b g e l) (fun g=>TR ps ks d a b g (mu (gc c i) l.length e) (l++gc c i)) (fun _=> .lit (.tuple #[]))
def vK(env:b6)(c:aq)(z:Right c)(ps ks G y:List (List AV))(E:Value)(i:Int)(l g:List Nat)(hi: -1<=i)(v:g.length=c.Z9.length)(q:l.length+(gc c i).length<=1000000)
 (R: ∀k∈av c i false,∀l g,g.length=c.Z9.length->l.length+(gc c k).length<=1000000->yh prog env 59 c ps ks G y E k l g):yh prog env 59 c ps ks G y E i l g:=by
 unfold yh at*
 have s:=z.Z6;have f0:=pC env c i (by omega);rw[DE z hi]at q |-;have H:(av c i false).length<=32:=Ly (dO c i false _) s;generalize P:av c i false=K at*;refine qi func59 call59 ntmps59 results59 ?_;intro N O e;have m:=e 1000 (by simp);have n:=e 1001 (by simp);have o:=e 1002 (by simp);have F:=g7 Ts m n o SR;repeat refine ef f0 ?_
 refine aG (D:=Nat) (fun j a=>[(0, .loc 1000 (a 1000) 0 0),(4, .loc 4 (a 4) 0 0),(10, .row 10 (a 10)),(11,I K.length),(12,I j)]) (fun j a=>TR ps ks G y E a (mu (C' c K j) l.length g) (l++C' c K j)++[(4,⟨5,[aA c],26,false⟩),(10,⟨1,K.map aB,3,true⟩)]) (fun j a d=>(j<=K.length/\a 1000=N 1000/\a 1001=N 1001)/\d 1000=false/\d 1001=false/\d 1002=false) (fun j=>K.length-j) 0 ?_ ?_ ?_ ?_
 ·exact⟨⟨Lx _,by simp only[go_sem],by simp only[go_sem]⟩,by simp only[go_sem,m],by simp only[go_sem,n],by simp only[go_sem,o]⟩
 ·exact qe
 ·have F:=ai Ts SR
  (simp only[go_sem,F])
  refine⟨rfl,?_⟩;show _=(⟨1,List.map aB (l++[]),3,true⟩:Row);rw[Mw]
 try clear m n o
 rintro j W d ⟨⟨V,L,M⟩,m,n,o⟩;by_cases h:j<K.length
 ·obtain⟨k,x⟩:=gE h;have A:k∈av c i false:=by rw[P];exact Lh x
  have U:=bH z A;have b:=El (c:=c) x;have r:=J0 (c:=c) K (j+1);have w:=pr (C' c K j) l.length g;have t:=pt (C' c K j) (k::gc c k) l.length g;rw[b]at r;rw[Ll,MB]at r;generalize mu (C' c K j) l.length g=f at*;have f1:=R k (Lh x) (l++C' c K j++[k]) (f.set k (l++C' c K j).length) (by rw[Nh,w,v]) (by simp only[Ll,MB,OV];omega);have C:=h9 h;have S:=aD h (by omega);have T:((k:Nat):Int)< (f.length:Int):=by rw[w,v];omega
  obtain⟨J,B⟩: ∃J,f[k]? =some J:=⟨f[k]'(by omega),Lc _⟩;have Q:cI (l.length+(C' c K j).length+1) 8:=⟨by omega,by omega⟩;have F:=dk Ts m n o SR C S T x Q SU<|fI @Ln.{0,0} B @O7.{0,0};have u:mu (C' c K (j+1)) l.length g=mu (gc c k) (l.length+(C' c K j).length+1) (f.set k (l.length+(C' c K j).length)):=by rw[b,t];rfl
  repeat refine st ?_
  refine iL [(1000,1000),(1001,1001),(1002,1002)] f1 ?_;repeat refine st ?_
  refine⟨j+1,⟨⟨h,?_,?_⟩,?_,?_,?_⟩,?_,?_,by omega⟩
  ·simp only[go_sem];exact L
  ·simp only[go_sem];exact M
  ·simp only[go_sem,m]
  ·simp only[go_sem,n]
  ·simp only[go_sem,o]
  ·exact qe
  have F:=ns Ts SR SU @Ln.{0,0} @O7.{0,0} u b @M4.{0}
  (simp only[go_sem,F])
  rw[t];rfl
 obtain rfl:j=K.length:=by omega
 have C:=nl K.length;have p:=HM (c:=c) K;have F:=pf Ts m n o SR C p L M;repeat refine st ?_
 exact rN
def zw(env:b6)(c:aq)(e:Right c)(ps ks h f:List (List AV))(g:Value): ∀(n:Nat)(i:Int)(l b:List Nat), -1<=i->(c.Z9.length:Int)<=i+n->b.length=c.Z9.length->l.length+(gc c i).length<=1000000->yh prog env 59 c ps ks h f g i l b
 |0,i,l,b,j,q,d,a=>vK env c e ps ks h f g i l b j d a fun k m=>by have:=bH e m;omega
 |n+1,i,l,b,j,q,d,a=>vK env c e ps ks h f g i l b j d a fun k m l b o p=>by have:=bH e m;exact zw env c e ps ks h f g n k l b (by omega) (by omega) o p
end
end Go.Proofs.YtknkhdgfhbogdaaGreatDoor
