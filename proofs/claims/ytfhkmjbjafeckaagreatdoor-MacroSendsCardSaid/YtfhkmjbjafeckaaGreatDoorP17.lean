/- The document's words on legal states. -/
import Derived.Test.YtfhkmjbjafeckaaGreatDoorP16
set_option maxRecDepth 100000
set_option maxHeartbeats 8000000
set_option linter.unusedSimpArgs false
set_option linter.defProp false
namespace Go.Proofs.YtfhkmjbjafeckaaGreatDoor
open Go.Proofs.Tryz
open Go.RowKit
section
def yG(env:b8)(l m:List Nat)(v:l.length<=1000000):b7 prog env 18 [.seq 1 (l.map aB), .seq 1 (m.map aB)] (B (decide (l=m))):=by
 by_cases s:l.length=m.length
 ·refine qf func18 call18 ntmps18 results18 ?_;have n:((l.length:Int) != (m.length:Int))=false:=by simp[s]
  have F:=n;repeat refine st ?_
  refine lq l.length (by omega) (fun j _=>[(0, .seq 1 (l.map aB)),(1, .seq 1 (m.map aB)),(4,B false),(5,I j)]) (fun _ _=>[]) (fun j _ _=>l.take j=m.take j) rfl ?_ ?_
  ·rintro j u k f h q p;have c:j<m.length:=by omega
   obtain⟨a,d⟩:=gE f;obtain⟨b,i⟩:=gE c;have r:=it c;by_cases e:a=b
   ·have o:((a:Int) != (b:Int))=false:=by simp[e]
    have F:=mc h q r d i Ux o;repeat refine st ?_
    refine⟨j+1,⟨f,?_⟩,?_,?_,by omega⟩
    ·rw[N1,N1,p,d,i,e]
    ·exact qe
    exact qe
   have o:((a:Int) != (b:Int))=true:=by simp;omega
   have g:decide (l=m)=false:=N7 fun t=>e (by rw[t]at d;exact OV (d.symm.trans i));rw[g];have F:=mc h q r d i Ux o;exact ek
  rintro u k h p;have g:decide (l=m)=true:=Ni (by rwa [NR,Nq (by omega)]at p);rw[g];have F:=h;exact ek
 have n:((l.length:Int) != (m.length:Int))=true:=by simp;omega
 have g:decide (l=m)=false:=N7 fun e=>s (by rw[e]);rw[g];refine qf func18 call18 ntmps18 results18 ?_;have F:=n;exact ek
def sY(env:b8)(c:aq)(i:Int):b7 prog env 110 [.agg (aA c),I i] (B (fb c i)):=by
 unfold fb;by_cases a:0<=i
 ·by_cases b:i< (c.Z9.length:Int)
  ·refine qf func110 call110 ntmps110 results110 ?_;have F:=gb Uv a b;exact ek
  refine qf func110 call110 ntmps110 results110 ?_;have F:=gb Uv a b;exact ek
 refine qf func110 call110 ntmps110 results110 ?_;have F:=ai Uv a;exact ek
def bE{c:aq}(h:Right c)(i:Int)(a:Bool):(av c i a).length<=32:=by
 have b:=dS c i a c.Z9.length;have d:=h.Z6;have b:(av c i a).length<=c.Z9.length:=b;omega
def uV{c:aq}(h:Right c){i:Int}(hi: -1<=i):(gu c i).length<=32:=by
 have b:=h.Z6;have:=(kA h 40 i hi (by omega)).length_le_of_subset (l₂:=List.range c.Z9.length) fun m a=>NX.2 ((jc h 40 i m hi (by omega)).1 a).1;simp at this;omega
def JZ{a b:Type}(f:a->List b)(K:List a)(j:Nat):((K.take j).flatMap f).length<=(K.flatMap f).length:=by
 have e:(K.take j).flatMap f++(K.drop j).flatMap f=K.flatMap f:=by rw[<-Ox,PU]
 have:=N6 List.length e;simp only[My]at this;omega
def Hg{a c:Type}(f:a->List c){K:List a}{j:Nat}{k:a}(b:K[j]? =some k):(K.take (j+1)).flatMap f=(K.take j).flatMap f++f k:=by rw[N1,b,Ox];simp
def pe(env:b8)(c:aq)(h:Right c): ∀(n:Nat)(i:Int), -1<=i->(c.Z9.length:Int)<=i+n->b7 prog env 161 [.agg (aA c),I i] (.own 3 1 ((gu c i).map aB))
 | n,i,t,o=>by
   have u:=h.Z6;have f0:=bh env c i false (by omega);have w:=FL h t;have q:=uV h t;have x:=bE h i false;have g: ∀k∈av c i false,i< (k:Int)/\k<c.Z9.length:=fun k b=>bJ h b;generalize av c i false=K at*;rw[w]at q;refine qf func161 call161 ntmps161 results161 ?_;have F:=aA.eq_1;repeat refine fc f0 ?_
   have F:=aA.eq_1;refine lq K.length (by omega) (fun j s=>[(2, .loc 2 (s 2) 0 0),(5, .row 8 (s 8)),(6, .row 11 (s 11)),(7,I j)]) (fun j _=>[(2,⟨5,[aA c],26,false⟩),(8,⟨1,((K.take j).flatMap fun k=>k::gu c k).map aB,3,true⟩),(11,⟨1,K.map aB,3,true⟩)]) (fun j _ a=>a 8=false) rfl ?_ ?_
   ·rintro j B a d r z f;obtain⟨k,b⟩:=gE d;have y:=g k (Mv b)
    match n,o with
    |0,o=>omega
    |n+1,o=>
    have f1:=pe env c h n k (by omega) (by omega);have v:=JZ (fun k=>k::gu c k) K (j+1);have e:=Hg (fun k=>k::gu c k) b;rw[e]at v;simp only[My,NN]at v;generalize C:(K.take j).flatMap (fun k=>k::gu c k)=A at*;have l:cU (A.length+1) 8:=aC (by omega) (by omega);have m:cU (A.length+1+(gu c k).length) 8:=aC (by omega) (by omega);have F:=n4 Uv Ux b r z l m f;repeat refine fc f1 ?_
    refine⟨j+1,⟨d,by simp only[go_sem,f]⟩,?_,?_,by omega⟩
    ·exact qe
    have F:=g9 Uv Ux e @NA.{0,0} @Nl.{0};exact qe
   rintro B a r f;have p:K.take K.length=K:=NR;rw[w];have F:=hU Ux r p f;exact ek
termination_by n=>n
def Bq(l W:List Nat)(j:Nat):List Nat:=(W.take j).filter fun k:Nat=>GS l (k:Int)
def H9{l W:List Nat}{j k:Nat}(h:W[j]? =some k):Bq l W (j+1)=if GS l (k:Int) then Bq l W j++[k] else Bq l W j:=by
 unfold Bq;rw[N1,h,N5];cases a:GS l (k:Int)<;>simp[a]
def JW(l W:List Nat)(j:Nat):(Bq l W j).length<=W.length:=by
 unfold Bq;exact NK (NS ..) (by rw[NJ];omega)
def M9(l:List Nat)(n:Int):GS l n=(zL l).contains n:=by
 rw[N4,pP,Mx];unfold zL;rw[NE]
def GK{c:aq}{l:List Nat}{j k:Nat}(h:((zL l).take j).all (fb c)=true)(a:l[j]? =some k)(b:fb c k=true):((zL l).take (j+1)).all (fb c)=true:=by
 have:(zL l)[j]? =some ((k:Nat):Int):=by unfold zL;rw[NB,a];rfl
 exact BI h this b
def lc(env:b8)(c:aq)(h:Right c)(l:List Nat)(x:l.length<=1000000):b7 prog env 111 [.agg (aA c), .seq 1 (l.map aB)] (.own 3 1 ((bt c (zL l)).map aB)):=by
 have s:=h.Z6;refine qw func111 call111 ntmps111 results111 ?_;have F:=aA.eq_1;repeat refine st ?_
 refine aH (D:=Nat) (fun j q=>[(1, .seq 1 (l.map aB)),(2, .loc 2 (q 2) 0 0),(5,I j)]) (fun _ _=>[(2,⟨5,[aA c],26,false⟩)]) (fun j _ _=>j<=l.length/\((zL l).take j).all (fb c)=true) (fun j=>l.length-j) 0 ?_ ?_ ?_ ?_
 ·exact⟨NG _,rfl⟩
 ·exact qe
 ·have F:=aA.eq_1;exact qe
 rintro j t e ⟨w,b⟩;by_cases a:j<l.length
 ·obtain⟨k,f⟩:=gE a;have d:=it a;have m:=aD a (by omega);have f0:=sY env c k;cases p:fb c k with
  | false=>
    rw[p]at f0;have F:=g9 Uv Ux d m f;repeat refine fc f0 ?_
    (refine aM ?_;refine⟨_,(by show (aj _ _ _).run _=some _;simp only[go_sem,F];rfl),?_⟩)
    rw[show bt c (zL l)=[] from BL (show (zL l)[j]? =some ((k:Nat):Int) by unfold zL;rw[NB,f];rfl) p];exact gA.own_nil _ _ (by decide)
  | true=>
    rw[p]at f0;have F:=g9 Uv Ux d m f;repeat refine fc f0 ?_
    exact qn (j+1) ⟨a,GK b f p⟩
 obtain rfl:j=l.length:=by omega
 have d:=nl l.length;have f1:=pe env c h 40 (-1) (by omega) (by omega);have v:=uV h (show (-1:Int)<= -1 by omega);have b:(zL l).all (fb c)=true:=by rwa [Nq (by simp[zL])]at b
 have g:bt c (zL l)=Bq l (gu c (-1)) (gu c (-1)).length:=by
  unfold bt Bq;rw[Mw b,NR];apply Ob;intro k _;rw[M9]
 rw[g];generalize gu c (-1)=W at*;have F:=ai Uv d;repeat refine fc f1 ?_
 refine lq W.length (by omega) (fun j q=>[(1, .seq 1 (l.map aB)),(6, .row 22 (q 22)),(7, .row 24 (q 24)),(8,I j)]) (fun j _=>[(22,⟨1,(Bq l W j).map aB,3,true⟩),(24,⟨1,W.map aB,3,true⟩)]) (fun j _ e=>e 22=false) rfl ?_ ?_
 ·try clear d
  rintro j t e a d m i;obtain⟨k,f⟩:=gE a;have f0:=sZ env l k (by omega);have u:=JW l W j;have r:cU ((Bq l W j).length+1) 8:=aC (by omega) (by omega);have o:=H9 (l:=l) f;cases n:GS l k with
  | true=>
    rw[n]at f0;rw[n,Mw rfl]at o;have F:=i' Ux d m f r i;repeat refine fc f0 ?_
    refine⟨j+1,⟨a,by simp only[go_sem,i]⟩,?_,?_,by omega⟩
    ·exact qe
    have F:=gb Ux o @NA.{0,0};exact qe
  | false=>
    rw[n]at f0;rw[n,Mt Nc]at o;have F:=i' Ux d m f r i;repeat refine fc f0 ?_
    refine⟨j+1,⟨a,by simp only[go_sem,i]⟩,?_,?_,by omega⟩
    ·exact qe
    have F:=gb Ux o @NA.{0,0};exact qe
 try clear d
 rintro t e d i;have F:=ai d i;repeat refine st ?_
 (refine aM ?_;refine⟨_,(by show (aj _ _ _).run _=some _;simp only[go_sem,F];rfl),?_⟩)
 exact gA.refl _
end
section
def uC(env:b8):b7 prog env 73 [cy] (.own 3 1 []):=(dW env [] (by simp)).args (y5.cons (F'.nil 1) y5.nil)
def bQ(env:b8)(c:aq):b7 prog env 177 [aG c] (aQ c):=by
 refine qf func177 call177 ntmps177 results177 ?_;have F:=gb UR UO UT;exact ek
def ay(env:b8)(c:aq)(a:g7 c):b7 prog env 66 [aG c] (.agg (aA c)):=by
 have f0:=pm env c a;unfold aA at f0;refine qf func66 call66 ntmps66 results66 ?_;have F:=ai UR UO;repeat refine fc f0 ?_
 (refine aM ?_;show (aj _ _ _).run _=some _;simp only[go_sem,F])
 rfl
def yC(env:b8)(c:aq)(a:c.trans.length<=4096)(s:List UInt8):b7 prog env 49 [aG c,Sg s] (I (SX c s)):=xb env c (by omega) _ _ s
def Kb(c:aq)(i e:Int):List Nat:=if e<0 then [] else Ts c i e
def Fu(c:aq)(i e:Int):(Ts c i e).length<=c.trans.length:=Ez ..
def C6{c:aq}{i e:Int}{q:Nat}(a:ri (i,e) (cI c c.trans.length) 0=some q):(fP c)[q]? =some [.agg [I i,I e], .seq 1 ((Ts c i e).map aB)]:=by
 have:=(qF a).2;unfold fP;rw[NB,Pb]at*;rw[this];rfl
def GL(env:b8)(c:aq)(f:c.trans.length<=4096)(i e:Int):b7 prog env 234 [aG c,I i,I e] (.own 3 1 ((Kb c i e).map aB)):=by
 have g:=Fu c i e;have a:=FK c i e;unfold Kb;by_cases h:e<0
 ·rw[Mw h];refine qw func234 call234 ntmps234 results234 ?_;have F:=gb UR UO h;repeat refine st ?_
  (refine aM ?_;refine⟨_,(by show (aj _ _ _).run _=some _;simp only[go_sem,F];rfl),?_⟩)
  exact gA.own_nil _ _ (by decide)
 ·rw[Mt h];cases b:ri (i,e) (cI c c.trans.length) 0 with
  | none=>
    rw[b]at a;have f0:=uC env;rw[show Ts c i e=[] from u5 (lm b)];refine qf func234 call234 ntmps234 results234 ?_;have F:=hU UR UO h a;exact hH f0
  | some q=>
    rw[b]at a;have d:=C6 b;have f0:=dW env ((Ts c i e).map aB) (by rw[NQ];omega);refine qf func234 call234 ntmps234 results234 ?_;have F:=g9 UR UO h a d;exact hH f0
def AA(env:b8)(c:aq)(e:c.trans.length<=4096)(i:Int):b7 prog env 233 [aG c,I i] (.own 3 1 ((Ts c i (-1)).map aB)):=by
 have f:=Fu c i (-1);have a:=FK c i (-1);cases b:ri (i, -1) (cI c c.trans.length) 0 with
 | none=>
   rw[b]at a;have f0:=uC env;rw[show Ts c i (-1)=[] from u5 (lm b)];refine qf func233 call233 ntmps233 results233 ?_;have F:=gb UR UO a;exact hH f0
 | some q=>
   rw[b]at a;have d:=C6 b;have f0:=dW env ((Ts c i (-1)).map aB) (by rw[NQ];omega);refine qf func233 call233 ntmps233 results233 ?_;have F:=hU UR UO a d;exact hH f0
def lZ(env:b8)(c:aq)(i:Int):b7 prog env 123 [aG c,I i] (B (fb c i)):=by
 unfold fb;by_cases a:0<=i
 ·by_cases b:i< (c.Z9.length:Int)
  ·refine qf func123 call123 ntmps123 results123 ?_;have F:=hU UR UO a b;exact ek
  refine qf func123 call123 ntmps123 results123 ?_;have F:=hU UR UO a b;exact ek
 refine qf func123 call123 ntmps123 results123 ?_;have F:=gb UR UO a;exact ek
def k6(c:aq)(i:Int):List Nat:=if fb c (if i= -1 then c.initial else i)=true then Th c (if i= -1 then c.initial else i).toNat else []
def yD(env:b8)(c:aq)(h:ch c)(i:Int):b7 prog env 68 [aG c,I i] (.own 3 1 ((k6 c i).map aB)):=by
 have n:=h.Z6;unfold k6;by_cases e:i= -1
 ·subst e;simp only[Nt];obtain⟨s,l,a,_⟩:=h.topS;have f:=(Mr.1 l).1;have f0:=lZ env c c.initial;have d:fb c c.initial=true:=by rw[a];exact aV.2 f
  rw[d]at f0;rw[d,Mw rfl];have f1:=dW env ((Th c (KK c)).map aB) (by rw[NQ];have:=E7 h (KK c);omega);have j:(rF c c.Z9.length)[KK c]? =some [.seq 1 ((Th c (KK c)).map aB)]:=by unfold rF;rw[NB,O8 f];rfl
  have b:(rF c c.Z9.length).length=c.Z9.length:=by simp[rF]
  have g:((KK c:Nat):Int)< (c.Z9.length:Int):=by omega
  rw[a]at f0 |-;rw[OS];unfold aG ct at f0 |-;rw[a]at f0 |-;refine qf func68 call68 ntmps68 results68 ?_;have F:=gb j b g;exact mw f0 f1
 ·rw[Mt e];have m:(i == -1)=false:=by simpa using e
  have f0:=lZ env c i;cases d:fb c i with
  | false=>
    rw[d]at f0;rw[Mt (by simp)];unfold aG ct at f0 |-;refine qw func68 call68 ntmps68 results68 ?_;have F:=m;repeat refine fc f0 ?_
    (refine aM ?_;refine⟨_,(by show (aj _ _ _).run _=some _;simp only[go_sem,F];rfl),?_⟩)
    exact gA.own_nil _ _ (by decide)
  | true=>
    obtain⟨k,s,rfl,l,o⟩:=cS d;have f:=(Mr.1 l).1;rw[d]at f0;rw[Mw rfl,OS];have f1:=dW env ((Th c k).map aB) (by rw[NQ];have:=E7 h k;omega);have j:(rF c c.Z9.length)[k]? =some [.seq 1 ((Th c k).map aB)]:=by unfold rF;rw[NB,O8 f];rfl
    have b:(rF c c.Z9.length).length=c.Z9.length:=by simp[rF]
    have g:((k:Nat):Int)< (c.Z9.length:Int):=by omega
    unfold aG ct at f0 |-;refine qf func68 call68 ntmps68 results68 ?_;have F:=hU j b g m;exact mw f0 f1
def bf(env:b8)(c:aq)(h:ch c)(i:Int):b7 prog env 185 [aG c,I i] (.own 3 1 ((if i= -1\/fb c i=true then av c i true else []).map aB)):=by
 have d:=h.Z6;have f0:=lZ env c i;have f1:=iC env c i (by omega);unfold aA at f1;unfold aG ct at f0 |-;by_cases e:i= -1
 ·subst e;have a:fb c (-1)=false:=by unfold fb;simp
  rw[a]at f0;rw[Mw (.inl rfl)];refine qf func185 call185 ntmps185 results185 ?_;repeat refine vP f0 f1 ?_
  exact oj
 ·have b:(i != -1)=true:=by simpa using e
  cases a:fb c i with
  | false=>
    rw[a]at f0;rw[Mt (by simp[e])];refine qw func185 call185 ntmps185 results185 ?_;have F:=b;repeat refine wc f0 f1 ?_
    (refine aM ?_;refine⟨_,(by show (aj _ _ _).run _=some _;simp only[go_sem,F];rfl),?_⟩)
    exact gA.own_nil _ _ (by decide)
  | true=>
    rw[a]at f0;rw[Mw (.inr rfl)];refine qf func185 call185 ntmps185 results185 ?_;have F:=b;exact mw f0 f1
def Kx(c:aq)(i:Int)(k:Nat):Bool:=match c.Z9[k]? with
 |some s=>fb c i&&((s.parent==i)&&aU s)
 |none=>false
def y'(c:aq)(i:Int):List Nat:=(List.range c.Z9.length).filter (Kx c i)
def JI{c:aq}(i:Int)(h:fb c i=true):y' c i=(av c i false).filter fun k:Nat=> !GS (av c i true) (k:Int):=by
 unfold y' av bj;rw[List.filter_filter];apply Ob;intro k a;have a:=NX.1 a;obtain⟨s,b⟩:=gE a;have d:dM c i false k=(s.parent==i):=by unfold dM;rw[b];simp
 have f:GS ((List.range c.Z9.length).filter (dM c i true)) (k:Int)=((s.parent==i)&& !aU s):=by
  rw[N4,pP];constructor
  ·rintro⟨j,g,e⟩;have:j=k:=by omega
   subst this;have:=(ND.1 g).2;unfold dM at this;rw[b]at this;simpa using this
  intro e;refine⟨k,ND.2 ⟨NX.2 a,?_⟩,rfl⟩;unfold dM;rw[b];simpa using e
 unfold Kx;rw[d,f,b];simp only[h,Nj];cases (s.parent==i)<;>cases aU s<;>rfl
def om(K R:List Nat)(j:Nat):List Nat:=(K.take j).filter fun k:Nat=> !GS R (k:Int)
def Da{K R:List Nat}{j k:Nat}(h:K[j]? =some k):om K R (j+1)=if GS R (k:Int) then om K R j else om K R j++[k]:=by
 unfold om;rw[N1,h,N5];cases a:GS R (k:Int)<;>simp[a]
def HR(K R:List Nat)(j:Nat):(om K R j).length<=K.length:=by
 unfold om;exact NK (NS ..) (by rw[NJ];omega)
def Ch(env:b8)(c:aq)(h:ch c)(i:Int):b7 prog env 296 [aG c,I i] (.own 3 1 ((y' c i).map aB)):=by
 have q:=h.Z6;have f0:=lZ env c i;cases l:fb c i with
 | false=>
   rw[l]at f0
   have w:y' c i=[]:=by
    unfold y';rw[Pf];intro k _;unfold Kx;cases c.Z9[k]? with
    |none=>simp
    |some s=>simp[l]
   rw[w];unfold aG ct at f0 |-;refine qw func296 call296 ntmps296 results296 ?_;repeat refine jJ f0 ?_
   (refine aM ?_;refine⟨_,(by show (aj _ _ _).run _=some _;simp only[go_sem];rfl),?_⟩)
   exact gA.own_nil _ _ (by decide)
 | true=>
   rw[l]at f0;rw[JI i l];have f1:=iC env c i (by omega);have f2:=pk env c i (by omega);unfold aA at f1 f2;have t:=bE h.toRight i false;have u:=bE h.toRight i true;generalize av c i true=R at*;generalize av c i false=K at*;unfold aG ct at f0 |-;refine qf func296 call296 ntmps296 results296 ?_;repeat refine Cd f0 f1 f2 ?_
   refine ao 6 6 3 1 ?_;refine RK K.length (by omega) (fun j o=>[(5, .row 18 (o 18)),(6, .row 6 (o 6)),(24, .row 24 (o 24)),(25,I K.length),(26,I j)]) (fun j _=>[(6,⟨1,(om K R j).map aB,3,true⟩),(18,⟨1,R.map aB,3,true⟩),(24,⟨1,K.map aB,3,true⟩)]) (fun j _ a=>a 6=false) rfl ?_ ?_
   ·rintro j x a b m r d;obtain⟨k,n⟩:=gE b;have f3:=jz env R k (by omega);have v:=HR K R j;have p:cU ((om K R j).length+1) 8:=aC (by omega) (by omega);have g:=Da (R:=R) n;cases f:GS R k with
    | true=>
      rw[f]at f3;rw[f,Mw rfl]at g;have F:=i' Ux m r n p d;repeat refine fc f3 ?_
      refine⟨j+1,⟨b,by simp only[go_sem,d]⟩,?_,?_,by omega⟩
      ·exact qe
      have F:=gb Ux g @NA.{0,0};exact qe
    | false=>
      rw[f]at f3;rw[f,Mt Nc]at g;have F:=i' Ux m r n p d;repeat refine fc f3 ?_
      refine⟨j+1,⟨b,by simp only[go_sem,d]⟩,?_,?_,by omega⟩
      ·exact qe
      have F:=gb Ux g @NA.{0,0};exact qe
   rintro x a m d;have e:om K R K.length=K.filter fun k:Nat=> !GS R (k:Int):=by unfold om;rw[NR]
   have F:=gb m e d;exact ek
end
section
def F'.seq{sz:Nat}{a es:List (List AV)}(C:a.length=es.length)(s: ∀(i:Nat)(r e:List AV),a[i]? =some r->es[i]? =some e->y5 r e):F' (.seq sz a) (.seq sz es):=fun S w v h=>by
 have cell: ∀ {i j:Nat}{c:AV},bs es i j=some c-> ∃k,bs a i j=some k/\F' k c:=fun {i j c} f=>by
  unfold bs at f |-;cases g:es[i]? with
  |none=>rw[g]at f;cases f
  | some e=>
    rw[g]at f;have x:=(Mr.1 g).1;have d:a[i]? =some a[i]:=Mq (by omega);obtain⟨m,q⟩:=s i _ e d g;have B:=(Mr.1 (show e[j]? =some c from f)).1;rw[d];exact⟨a[i][j],Mq (by omega),q j _ c (Mq (by omega)) f⟩
 cases h with
 | seq A n p sz a b o u D l t z f y=>
   refine .seq A n p sz es b o u (by omega) l t (fun i e g=> ?_) (fun i j c h=> ?_) fun i j c h=> ?_
   ·have x:=(Mr.1 g).1;have d:a[i]? =some a[i]:=Mq (by omega);rw[<-(s i _ e d g).1];exact z i _ d
   ·obtain⟨k,m,_⟩:=cell h;exact f i j k m
   obtain⟨k,m,q⟩:=cell h;exact q _ _ _ (y i j k m)
def y5.one{a c:AV}(h:F' a c):y5 [a] [c]:= .cons h .nil
def Sk(a es:List (List AV)):Prop:=a.length=es.length/\ ∀(i:Nat)(b e:List AV),a[i]? =some b->es[i]? =some e->y5 b e
def Sk.nil:Sk [] []:=⟨rfl,fun i a c h _=>by simp at h⟩
def Sk.cons{g e:List AV}{c es:List (List AV)}(h:y5 g e)(j:Sk c es):Sk (g::c) (e::es):=⟨by simp[j.1],fun i a b d f=>by
 cases i with
 | zero=>
   simp only[Nr,Ms]at d f;subst d f;exact h
 |succ i=>exact j.2 i a b (by simpa using d) (by simpa using f)⟩
def F'.seqs{sz:Nat}{a es:List (List AV)}(h:Sk a es):F' (.seq sz a) (.seq sz es):= .seq h.1 h.2
end
section
def tC(c:aq):Bool:=decide ((c.Z9.length:Int)<=40)&&decide ((c.trans.length:Int)<=70)&&decide ((c.vars.length:Int)<=10)
def nD(env:b8)(c:aq):b7 prog env 9 [.agg (aA c)] (B ((n5 c).1==0)):=by
 have f0:=DV env c;unfold TH at f0;refine qf func9 call9 ntmps9 results9 ?_;repeat refine jJ f0 ?_
 exact oj
def k7(c:aq):Bool:=tC c&&((n5 c).1==0)
def MJ{c:aq}(h:(n5 c).1=0):n5 c=(0, -1):=by
 unfold n5 at h |-;split at h
 ·simp at h
 rename_i a;rw[Mt a];split at h
 ·simp at h
 rename_i b;rw[Mt b];split at h
 ·simp at h
 rename_i e;try simp only at h |-
 split at h
 ·simp at h
 rename_i f;try simp only at h |-
 split at h
 ·simp at h
 rename_i d;rw[Mt d];split at h
 ·simp at h
 rfl
def xN{c:aq}(h:k7 c=true):ch c:=by
 unfold k7 at h;rw[Mu,Nz]at h;exact Sv h.2
end
section
def jf(c:aq)(i:Int)(s:List UInt8)(k:Nat):Bool:=match c.trans[k]? with|some t=>decide (t.src=i/\t.Z8=s)|none=>false
def ii(c:aq)(i:Int)(s:List UInt8)(j:Nat):List Nat:=(List.range j).filter (jf c i s)
def js(p:Nat->Bool)(j:Nat):(List.range (j+1)).filter p=if p j then(List.range j).filter p++[j] else(List.range j).filter p:=by
 rw[PN,N5];cases a:p j<;>simp[a]
def gH(p:Nat->Bool)(j:Nat):((List.range j).filter p).length<=j:=NK (NS ..) (by simp)
def Km(env:b8)(c:aq)(u:c.trans.length<=4000)(i:Int)(s:List UInt8):b7 prog env 164 [.agg (aA c),I i,Sg s] (.own 3 1 ((ii c i s c.trans.length).map aB)):=by
 refine qf func164 call164 ntmps164 results164 ?_;have F:=aA.eq_1;repeat refine st ?_
 have F:=aA.eq_1;refine lq c.trans.length (by omega) (fun j p=>[(1,I i),(2,Sg s),(3, .loc 3 (p 3) 0 0),(7, .row 9 (p 9)),(8,I j)]) (fun j _=>[(3,⟨5,[aA c],26,false⟩),(9,⟨1,(ii c i s j).map aB,3,true⟩)]) (fun j _ d=>d 9=false) rfl ?_ ?_
 ·rintro j r d a g n b;obtain⟨t,l⟩:=gE a;have e:ii c i s (j+1)=if jf c i s j then ii c i s j++[j] else ii c i s j:=js (jf c i s) j
  have v:(ii c i s j).length<=j:=gH (jf c i s) j;have o:cU ((ii c i s j).length+1) 8:=aC (by omega) (by omega);have q:jf c i s j=decide (t.src=i/\t.Z8=s):=by unfold jf;rw[l]
  rw[q]at e;by_cases h:t.src=i
  ·by_cases k:t.Z8=s
   ·rw[Mw (by simp[h,k])]at e;have f:(t.src==i)=true:=by simpa using h
    have m:(t.Z8==s)=true:=by simpa using k
    have F:=qr Uv Uy g n l f m o b;repeat refine st ?_
    refine⟨j+1,⟨a,by simp only[go_sem,b]⟩,?_,?_,by omega⟩
    ·exact qe
    have F:=hU Uv Ux e @NA.{0,0};exact qe
   rw[Mt (by simp[k])]at e;have f:(t.src==i)=true:=by simpa using h
   have m:(t.Z8==s)=false:=by simpa using k
   have F:=qr Uv Uy g n l f m o b;repeat refine st ?_
   refine⟨j+1,⟨a,by simp only[go_sem,b]⟩,?_,?_,by omega⟩
   ·exact qe
   have F:=hU Uv Ux e @NA.{0,0};exact qe
  rw[Mt (by simp[h])]at e;have f:(t.src==i)=false:=by simpa using h
  have F:=n4 Uv Uy g n l f o b;repeat refine st ?_
  refine⟨j+1,⟨a,by simp only[go_sem,b]⟩,?_,?_,by omega⟩
  ·exact qe
  have F:=hU Uv Ux e @NA.{0,0};exact qe
 rintro r d g b;have F:=gb Uv g b;exact ek
def DK(c:aq)(i:Int):ii c i [] c.trans.length=Ts c i (-1):=by
 have:=KY (c:=c) i [] (.inl rfl);rw[zJ]at this;rw[this];rfl
def DJ(c:aq)(i:Int){s:List UInt8}(d:s≠[]):ii c i s c.trans.length=Kb c i (SX c s):=by
 by_cases h:s∈J' c
 ·obtain⟨k,e,_⟩:=vq h;have:=KY (c:=c) i s (.inr h);unfold Kb;rw[Mt (by omega),this];rfl
 ·unfold Kb;rw[Ff h,Mw (by omega)];unfold ii;rw[Pf];intro k f a;unfold jf at a;cases b:c.trans[k]? with
  |none=>rw[b]at a;cases a
  | some t=>
    rw[b]at a;simp only[NF]at a;exact h (zk.2 ⟨d,t,Mv b,a.2⟩)
end
section
def j7(env:b8)(c:aq)(D:c.Z9.length<=4000)(act:List Int)(E:act.length<=1000000):b7 prog env 181 [aG c, .seq 1 (act.map aa)] (.own 4 1 (kE c.Z9.length act)):=by
 have f0:=bQ env c;have f1:=BF env c;have v:=Hh c.Z9.length;have w: ¬(16777216:Int)< (c.Z9.length:Int):=by omega
 have y: ¬(281474976710656:Int)<1*(c.Z9.length:Int):=by omega
 have z: ¬(c.Z9.length:Int)<0:=by omega
 have A: ¬(281474976710656:Int)< (c.Z9.length:Int):=by omega
 unfold aQ at f0 f1;unfold aG at f0 |-;refine qf func181 call181 ntmps181 results181 ?_;have F:=hU w y z A;repeat refine wc f0 f1 ?_
 have F:=v;refine lq act.length (by omega) (fun j B=>[(5, .row 11 (B 11)),(12, .seq 1 (act.map aa)),(13,I act.length),(14,I j)]) (fun j _=>[(11,⟨1,kE c.Z9.length (act.take j),4,true⟩)]) (fun j _ e=>e 11=false) rfl ?_ ?_
 ·rintro j C e a g r b;obtain⟨x,h⟩:=gE a;have p:act.take (j+1)=act.take j++[x]:=by rw[N1,h];rfl
  have f:=eo c.Z9.length (act.take j);by_cases t:0<=x
  ·obtain⟨k,rfl⟩:=fg t;by_cases l:k<c.Z9.length
   ·have s:=it l;have d:=J0 (act:=act.take j) l;have o:=kU (act:=act.take j) l;rw[<-p]at d;have F:=n4 h g r s o d f b;repeat refine st ?_
    exact qn (j+1) ⟨a,by simp only[go_sem,b]⟩
   have s: ¬(k:Int)< (c.Z9.length:Int):=by omega
   have d:=Bw (n:=c.Z9.length) (act:=act.take j) (i:=(k:Int)) (fun m u=>by omega);rw[<-p]at d;have F:=i' h g r s f b;repeat refine st ?_
   refine⟨j+1,⟨a,by simp only[go_sem,b]⟩,?_,?_,by omega⟩
   ·exact qe
   have F:=d;exact qe
  have d:=Bw (n:=c.Z9.length) (act:=act.take j) (i:=x) (fun m u=>by omega);rw[<-p]at d;have F:=i' h g r t f b;repeat refine st ?_
  refine⟨j+1,⟨a,by simp only[go_sem,b]⟩,?_,?_,by omega⟩
  ·exact qe
  have F:=d;exact qe
 rintro C e g b;have q:act.take act.length=act:=NR;have F:=gb g q b;exact ek
def ue(env:b8)(n:Nat)(act:List Int)(ks:List Nat)(_hn:n<=4000)(u:ks.length<=4000)(q: ∀k∈ks,k<n):b7 prog env 184 [.seq 1 (kE n act), .seq 1 (ks.map aB)] (I (b6 act ks:Nat)):=by
 have e:=eo n act;have t:b6 act []=0:=rfl;refine qf func184 call184 ntmps184 results184 ?_;repeat refine m9 ?_
 have F:=t;refine lq ks.length (by omega) (fun j _=>[(0, .seq 1 (kE n act)),(5,I (b6 act (ks.take j):Nat)),(8, .seq 1 (ks.map aB)),(9,I ks.length),(10,I j)]) (fun _ _=>[]) (fun _ _ _=>True) trivial ?_ ?_
 ·rintro j s h d g o _;obtain⟨k,b⟩:=gE d;have f:=q k (Mv b);have p:=it f;have a:=kU (act:=act) f;have c:=yu (act:=act) b;have i:=yv act (ks.take j);rw[NJ]at i;have r:=aD (show b6 act (ks.take j)<ks.length by omega) (by omega);cases m:act.contains (k:Int) with
  | true=>
    rw[m]at a c;rw[Mw rfl]at c;have F:=n4 Ux b g o p r a e;repeat refine st ?_
    refine⟨j+1,⟨d,trivial⟩,?_,?_,by omega⟩
    ·have F:=c;exact qe
    ·(simp only[go_sem,c])
  | false=>
    rw[m]at a c;rw[Mt Nc,PY]at c;have F:=mc Ux b g o p a e;repeat refine st ?_
    refine⟨j+1,⟨d,trivial⟩,?_,?_,by omega⟩
    ·have F:=c;exact qe
    ·(simp only[go_sem,c])
 rintro s h g _;have l:ks.take ks.length=ks:=NR;have F:=ai g l;exact ek
def Gq{c:aq}(h:Right c){k:Nat}{s:nr}(a:c.Z9[k]? =some s)(act:List Int):(s.parent<0/\decide (s.parent<0)=true)\/(¬s.parent<0/\decide (s.parent<0)=false/\0<=s.parent/\s.parent< (c.Z9.length:Int)/\(kE c.Z9.length act)[s.parent.toNat]? =some [B (act.contains s.parent)]):=by
 have d:=(Mr.1 a).1;have b:=(h.par k s a).2;by_cases e:s.parent<0
 ·exact .inl ⟨e,Ni e⟩
 refine .inr ⟨e,N7 e,by omega,by omega,?_⟩;rw[kU (by omega)];rw[show ((s.parent.toNat:Nat):Int)=s.parent by omega]
def J1(env:b8)(c:aq)(h:ch c)(act:List Int)(k:Nat)(s:nr)(i:c.Z9[k]? =some s):b7 prog env 182 [.agg (aA c),aG c, .seq 1 (kE c.Z9.length act),I k] (B (rj c act k s)):=by
 have H:=h.Z6;have J:=(Mr.1 i).1;have l:((k:Nat):Int)< (c.Z9.length:Int):=by omega
 have f0:=bf env c h k;rw[Mw (.inr (aV.2 J))]at f0;have M:=bE h.toRight k true;have C: ∀j∈av c k true,j<c.Z9.length:=fun j L=>by have:=bJ h.toRight (aY L).1;omega
 have f1:=ue env c.Z9.length act (av c k true) (by omega) (by omega) C;have o:=eo c.Z9.length act;have A:=Gq h.toRight i act;have G:rj c act k s=(!aU s&&(decide (s.parent<0)||act.contains s.parent)&&(if s.kind=1/\av c k true≠[] then b6 act (av c k true)==1 else if s.kind=2 then b6 act (av c k true)==(av c k true).length else true)):=rfl;rw[G];try clear G
 generalize av c k true=K at*;unfold aG at f0 |-;by_cases D:s.kind=4
 ·have b:(s.kind==4)=true:=by simpa using D
  have x:aU s=true:=by unfold aU;rw[b];rfl
  rw[x];refine qf func182 call182 ntmps182 results182 ?_;have F:=g9 Uv Uw i l b;exact hH f0
 have b:(s.kind==4)=false:=by simpa using D
 by_cases E:s.kind=5
 ·have g:(s.kind==5)=true:=by simpa using E
  have x:aU s=true:=by unfold aU;rw[g,Bool.or_true]
  rw[x];refine qf func182 call182 ntmps182 results182 ?_;have F:=i' Uv Uw i l b g;exact hH f0
 have g:(s.kind==5)=false:=by simpa using E
 have x:aU s=false:=by unfold aU;rw[b,g];rfl
 rw[x];by_cases y:s.kind=1
 ·have m:(s.kind==1)=true:=by simpa using y
  by_cases p:K=[]
  ·rw[Mt (by simp[p]),Mt (by omega)];have w: ¬(0:Int)< (K.length:Int):=by rw[p];simp
   rcases A with⟨d,f⟩|⟨d,f,q,r,t⟩
   ·refine qf func182 call182 ntmps182 results182 ?_;have F:=lE Uv Uw i l b g m w d f;exact hH f0
   refine qf func182 call182 ntmps182 results182 ?_;have F:=ed Uv Uw i l b g m w d f q<|gb r t o;exact hH f0
  rw[Mw ⟨y,p⟩];have w:(0:Int)< (K.length:Int):=by have:=O2.2 p;omega
  by_cases n:b6 act K=1
  ·have a:((b6 act K:Nat):Int)=1:=by omega
   rw[n];rcases A with⟨d,f⟩|⟨d,f,q,r,t⟩
   ·refine qf func182 call182 ntmps182 results182 ?_;have F:=ql Uv Uw i l b g m w a d f;exact mw f0 f1
   refine qf func182 call182 ntmps182 results182 ?_;have F:=ed Uv Uw i l b g m w a d f<|hU q r t o;exact mw f0 f1
  have a:(((b6 act K:Nat):Int) != 1)=true:=by simp;omega
  have u:(b6 act K==1)=false:=by simpa using n
  rw[u];refine qf func182 call182 ntmps182 results182 ?_;have F:=qr Uv Uw i l b g m w a;exact mw f0 f1
 have m:(s.kind==1)=false:=by simpa using y
 rw[Mt (fun e=>y e.1)];by_cases z:s.kind=2
 ·have v:(s.kind==2)=true:=by simpa using z
  rw[Mw z];by_cases n:b6 act K=K.length
  ·have a:(((b6 act K:Nat):Int) != (K.length:Int))=false:=by simp;omega
   rw[n];rcases A with⟨d,f⟩|⟨d,f,q,r,t⟩
   ·refine qf func182 call182 ntmps182 results182 ?_;have F:=ql Uv Uw i l b g m v a d f;exact mw f0 f1
   refine qf func182 call182 ntmps182 results182 ?_;have F:=ed Uv Uw i l b g m v a d f<|hU q r t o;exact mw f0 f1
  have a:(((b6 act K:Nat):Int) != (K.length:Int))=true:=by simp;omega
  have u:(b6 act K==K.length)=false:=by simpa using n
  rw[u];refine qf func182 call182 ntmps182 results182 ?_;have F:=qr Uv Uw i l b g m v a;exact mw f0 f1
 have v:(s.kind==2)=false:=by simpa using z
 rw[Mt z];rcases A with⟨d,f⟩|⟨d,f,q,r,t⟩
 ·refine qf func182 call182 ntmps182 results182 ?_;have F:=lE Uv Uw i l b g m v d f;exact hH f0
 refine qf func182 call182 ntmps182 results182 ?_;have F:=ed Uv Uw i l b g m v d f q<|gb r t o;exact hH f0
def ID(env:b8)(a b:Addr)(d:fU env a b)(p:Int)(e: -1<=p):b7 prog env 183 [I p] (dt p (bx a)):=by
 have c:=iT d.e1;have f0:=zH env [108,101,103,97,108,46,67,104,101,99,107] p a e;refine qf func183 call183 ntmps183 results183 ?_;have F:=c;exact hH f0
def vx(a:Addr)(c:aq)(act:List Int):AV:=if tI c act=true then h9 else dt (kN c act).2 (bx a)
def C0{a:Addr}{c:aq}{act:List Int}{p:Int}(h:kN c act=(1,p)):vx a c act=dt p (bx a):=by
 unfold vx tI;rw[h];rfl
def LM{a:Addr}{c:aq}{act:List Int}{p:Int}(h:kN c act=(0,p)):vx a c act=h9:=by
 unfold vx tI;rw[h];rfl
def tG{c:aq}{act:List Int}{j:Nat}{x:Int}(a:act[j]? =some x):vh c act j=((j==0||decide (act.getD (j-1) 0<x))&&vk c act x):=by unfold vh;rw[a]
def CC{c:aq}{act:List Int}{k:Nat}{s:nr}(a:c.Z9[k]? =some s):vk c act (k:Int)=rj c act k s:=by
 unfold vk;rw[bN,a];rfl
def ox{c:aq}{act:List Int}{x:Int}(b:fb c x=false):vk c act x=false:=by
 unfold vk at_;unfold fb at b;by_cases a:0<=x
 ·rw[Mw a];rw[Ni a,Nj,Nm]at b;rw[NI (by omega)]
 rw[Mt a]
end
section
def FD{act:List Int}{j:Nat}(a:0<j)(b:j<act.length):act[j-1]? =some (act.getD (j-1) 0):=by
 rw[NW,Mq (show j-1<act.length by omega)];rfl
def cB(l:List Int):bO (l.map tM)=l.map aa:=by
 unfold bO;rw[P5];rfl
end
section
def Hz{act:List Int}{j:Nat}{x v:Int}(c:act[j]? =some x)(a:(act.take j).contains v=false)(b:x≠v):(act.take (j+1)).contains v=false:=by
 rw[N1,c];simp at a |-;exact⟨a,fun q=>b q.symm⟩
def cK(env:b8)(act:List Int)(v:Int)(l:act.length<=1000000):b7 prog env 98 [.seq 1 (act.map aa),I v] (B (act.contains v)):=by
 refine qf func98 call98 ntmps98 results98 ?_;repeat refine m9 ?_
 refine RK act.length (by omega) (fun j _=>[(0, .seq 1 (act.map aa)),(1,I v),(5,I j)]) (fun _ _=>[]) (fun j _ _=>(act.take j).contains v=false) rfl ?_ ?_
 ·rintro j k f b d i a;obtain⟨x,c⟩:=gE b;by_cases e:x=v
  ·have h:act.contains v=true:=by rw[Mx, <-e];exact Mv c
   rw[h];have g:(x==v)=true:=by simpa using e
   have F:=gb c d g;exact ek
  have g:(x==v)=false:=by simpa using e
  have F:=hU c d i g;repeat refine st ?_
  exact qn (j+1) ⟨b,Hz c a e⟩
 rintro k f d a;rw[NR]at a;rw[a];have F:=d;exact ek
def gF(env:b8)(act:List Int)(ks:List Nat)(l:act.length<=1000000)(p:ks.length<=4000):b7 prog env 162 [.seq 1 (act.map aa), .seq 1 (ks.map aB)] (I (b6 act ks:Nat)):=by
 have o:b6 act []=0:=rfl;refine qf func162 call162 ntmps162 results162 ?_;repeat refine m9 ?_
 have F:=o;refine lq ks.length (by omega) (fun j _=>[(0, .seq 1 (act.map aa)),(1, .seq 1 (ks.map aB)),(5,I (b6 act (ks.take j):Nat)),(6,I j)]) (fun _ _=>[]) (fun _ _ _=>True) trivial ?_ ?_
 ·rintro j n e c d i _;obtain⟨k,b⟩:=gE c;have f0:=cK env act k l;have a:=yu (act:=act) b;have f:=yv act (ks.take j);rw[NJ]at f;have m:=aD (show b6 act (ks.take j)<ks.length by omega) (by omega);cases h:act.contains (k:Int) with
  | true=>
    rw[h]at f0 a;rw[Mw rfl]at a;have F:=g9 Ux b d i m;repeat refine fc f0 ?_
    refine⟨j+1,⟨c,trivial⟩,?_,?_,by omega⟩
    ·have F:=a;exact qe
    ·(simp only[go_sem,a])
  | false=>
    rw[h]at f0 a;rw[Mt Nc,PY]at a;have F:=hU Ux b d i;repeat refine fc f0 ?_
    refine⟨j+1,⟨c,trivial⟩,?_,?_,by omega⟩
    ·have F:=a;exact qe
    ·(simp only[go_sem,a])
 rintro n e d _;have g:ks.take ks.length=ks:=NR;have F:=ai d g;exact ek
def A4(env:b8)(c:aq)(h:ch c)(act:List Int)(p:act.length<=1000000)(k:Nat)(s:nr)(e:c.Z9[k]? =some s):b7 prog env 197 [.agg (aA c), .seq 1 (act.map aa),I k] (B (rj c act k s)):=by
 have r:=h.Z6;have w:=(Mr.1 e).1;have g:((k:Nat):Int)< (c.Z9.length:Int):=by omega
 have f0:=bh env c k true (by omega);have v:=bE h.toRight k true;have f1:=gF env act (av c k true) p (by omega);have f2:=bu env s;have f3:=cK env act s.parent p;have o:rj c act k s=(!aU s&&(decide (s.parent<0)||act.contains s.parent)&&(if s.kind=1/\av c k true≠[] then b6 act (av c k true)==1 else if s.kind=2 then b6 act (av c k true)==(av c k true).length else true)):=rfl;rw[o];try clear o
 generalize av c k true=K at*;cases t:aU s with
 | true=>
   rw[t]at f2;refine qf func197 call197 ntmps197 results197 ?_;have F:=hU Uv Uw e g;exact hH f2
 | false=>
   rw[t]at f2;by_cases u:s.parent<0
   ·have f: ¬0<=s.parent:=by omega
    rw[Ni u];by_cases b:s.kind=1/\K≠[]
    ·have a:(s.kind==1)=true:=by simpa using b.1
     have l:(0:Int)< (K.length:Int):=by have:=O2.2 b.2;omega
     have m:(((b6 act K:Nat):Int)==1)=(b6 act K==1):=by rw[N4,Nz,Nz];omega
     rw[Mw b];refine qf func197 call197 ntmps197 results197 ?_;have F:=n4 Uv Uw e g f a l m;exact An f0 f1 f2
    rw[Mt b];have m:(((b6 act K:Nat):Int)==(K.length:Int))=(b6 act K==K.length):=by rw[N4,Nz,Nz];omega
    by_cases d:s.kind=2
    ·have a:(s.kind==1)=false:=by simp[d]
     have i:(s.kind != 2)=false:=by simp[d]
     rw[Mw d];refine qf func197 call197 ntmps197 results197 ?_;have F:=n4 Uv Uw e g f a i m;exact An f0 f1 f2
    have i:(s.kind != 2)=true:=by simpa using d
    rw[Mt d];by_cases j:s.kind=1
    ·have a:(s.kind==1)=true:=by simpa using j
     have l: ¬(0:Int)< (K.length:Int):=by
      have:K=[]:=PQ fun q=>b ⟨j,q⟩;rw[this];simp
     refine qf func197 call197 ntmps197 results197 ?_;have F:=n4 Uv Uw e g f a i l;exact An f0 f1 f2
    have a:(s.kind==1)=false:=by simpa using j
    refine qf func197 call197 ntmps197 results197 ?_;have F:=mc Uv Uw e g f a i;exact An f0 f1 f2
   ·have f:0<=s.parent:=by omega
    rw[N7 u];cases n:act.contains s.parent with
    | false=>
      rw[n]at f3;refine qf func197 call197 ntmps197 results197 ?_;have F:=g9 Uv Uw e g f;exact TB f0 f1 f2 f3
    | true=>
      rw[n]at f3;by_cases b:s.kind=1/\K≠[]
      ·have a:(s.kind==1)=true:=by simpa using b.1
       have l:(0:Int)< (K.length:Int):=by have:=O2.2 b.2;omega
       have m:(((b6 act K:Nat):Int)==1)=(b6 act K==1):=by rw[N4,Nz,Nz];omega
       rw[Mw b];refine qf func197 call197 ntmps197 results197 ?_;have F:=n4 Uv Uw e g f a l m;exact TB f0 f1 f2 f3
      rw[Mt b];have m:(((b6 act K:Nat):Int)==(K.length:Int))=(b6 act K==K.length):=by rw[N4,Nz,Nz];omega
      by_cases d:s.kind=2
      ·have a:(s.kind==1)=false:=by simp[d]
       have i:(s.kind != 2)=false:=by simp[d]
       rw[Mw d];refine qf func197 call197 ntmps197 results197 ?_;have F:=n4 Uv Uw e g f a i m;exact TB f0 f1 f2 f3
      have i:(s.kind != 2)=true:=by simpa using d
      rw[Mt d];by_cases j:s.kind=1
      ·have a:(s.kind==1)=true:=by simpa using j
       have l: ¬(0:Int)< (K.length:Int):=by
        have:K=[]:=PQ fun q=>b ⟨j,q⟩;rw[this];simp
       refine qf func197 call197 ntmps197 results197 ?_;have F:=n4 Uv Uw e g f a i l;exact TB f0 f1 f2 f3
      have a:(s.kind==1)=false:=by simpa using j
      refine qf func197 call197 ntmps197 results197 ?_;have F:=mc Uv Uw e g f a i;exact TB f0 f1 f2 f3
def oU(l:List Nat)(j:Nat):List Nat:=(List.range j).filter fun k=>GS l (k:Int)
def Cx(env:b8)(c:aq)(q:c.Z9.length<=4000)(l:List Nat)(n:l.length<=1000000):b7 prog env 105 [.agg (aA c), .seq 1 (l.map aB)] (.own 3 1 ((nA c l).map aB)):=by
 show b7 _ _ _ _ (.own _ 1 ((oU l c.Z9.length).map aB));refine qf func105 call105 ntmps105 results105 ?_;have F:=aA.eq_1;repeat refine st ?_
 have F:=aA.eq_1;refine lq c.Z9.length (by omega) (fun j i=>[(1, .seq 1 (l.map aB)),(2, .loc 2 (i 2) 0 0),(5, .row 7 (i 7)),(6,I j)]) (fun j _=>[(2,⟨5,[aA c],26,false⟩),(7,⟨1,(oU l j).map aB,3,true⟩)]) (fun j _ a=>a 7=false) rfl ?_ ?_
 ·rintro j p a e f h b;have f1:=sZ env l j n;unfold SY at f1;have d:oU l (j+1)=if GS l (j:Int) then oU l j++[j] else oU l j:=js (fun k:Nat=>GS l (k:Int)) j
  have o:(oU l j).length<=j:=gH (fun k:Nat=>GS l (k:Int)) j;have m:cU ((oU l j).length+1) 8:=aC (by omega) (by omega);cases g:GS l (j:Int) with
  | true=>
    rw[g]at f1 d;rw[Mw rfl]at d;have F:=i' Uv Ux f h m b;repeat refine fc f1 ?_
    refine⟨j+1,⟨e,by simp only[go_sem,b]⟩,?_,?_,by omega⟩
    ·exact qe
    have F:=hU Uv Ux d @NA.{0,0};exact qe
  | false=>
    rw[g]at f1 d;rw[Mt Nc]at d;have F:=g9 Uv Ux f h b;repeat refine fc f1 ?_
    refine⟨j+1,⟨e,by simp only[go_sem,b]⟩,?_,?_,by omega⟩
    ·exact qe
    have F:=gb Uv Ux d;exact qe
 rintro p a f b;have F:=gb Uv f b;exact ek
end
end Go.Proofs.YtfhkmjbjafeckaaGreatDoor
