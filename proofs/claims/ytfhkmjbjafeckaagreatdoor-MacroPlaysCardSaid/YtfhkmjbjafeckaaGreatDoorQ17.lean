/- Package legal: Check. -/
import Derived.Test.YtfhkmjbjafeckaaGreatDoorQ16
set_option maxRecDepth 100000
set_option maxHeartbeats 8000000
set_option linter.unusedSimpArgs false
set_option linter.defProp false
namespace Go.Proofs.YtfhkmjbjafeckaaGreatDoor
open Go.Proofs.Tryz
open Go.RowKit
section
def yR(env:cf)(l m:List Nat)(v:l.length<=1000000):b8 prog env 18 [.seq 1 (l.map aB), .seq 1 (m.map aB)] (B (decide (l=m))):=by
 by_cases s:l.length=m.length
 ·refine qf func18 call18 ntmps18 results18 ?_;have n:((l.length:Int) != (m.length:Int))=false:=by simp[s]
  have F:=n;repeat refine st ?_
  refine lq l.length (by omega) (fun j _=>[(0, .seq 1 (l.map aB)),(1, .seq 1 (m.map aB)),(4,B false),(5,I j)]) (fun _ _=>[]) (fun j _ _=>l.take j=m.take j) rfl ?_ ?_
  ·rintro j u k f h q p;have c:j<m.length:=by omega
   obtain⟨a,d⟩:=gE f;obtain⟨b,i⟩:=gE c;have r:=ip c;by_cases e:a=b
   ·have o:((a:Int) != (b:Int))=false:=by simp[e]
    have F:=m7 h q r d i Uu o;repeat refine st ?_
    refine⟨j+1,⟨f,?_⟩,?_,?_,by omega⟩
    ·rw[N4,N4,p,d,i,e]
    ·exact qe
    exact qe
   have o:((a:Int) != (b:Int))=true:=by simp;omega
   have g:decide (l=m)=false:=Nm fun t=>e (by rw[t]at d;exact OV (d.symm.trans i));rw[g];have F:=m7 h q r d i Uu o;exact fc
  rintro u k h p;have g:decide (l=m)=true:=Ny (by rwa [NS,Nu (by omega)]at p);rw[g];have F:=h;exact fc
 have n:((l.length:Int) != (m.length:Int))=true:=by simp;omega
 have g:decide (l=m)=false:=Nm fun e=>s (by rw[e]);rw[g];refine qf func18 call18 ntmps18 results18 ?_;have F:=n;exact fc
def sj(env:cf)(c:aq)(i:Int):b8 prog env 110 [.agg (aA c),I i] (B (fi c i)):=by
 unfold fi;by_cases a:0<=i
 ·by_cases b:i< (c.Z9.length:Int)
  ·refine qf func110 call110 ntmps110 results110 ?_;have F:=gs Us a b;exact fc
  refine qf func110 call110 ntmps110 results110 ?_;have F:=gs Us a b;exact fc
 refine qf func110 call110 ntmps110 results110 ?_;have F:=ai Us a;exact fc
def bU{c:aq}(h:Right c)(i:Int)(a:Bool):(av c i a).length<=32:=by
 have b:=dR c i a c.Z9.length;have d:=h.Z6;have b:(av c i a).length<=c.Z9.length:=b;omega
def u6{c:aq}(h:Right c){i:Int}(hi: -1<=i):(g7 c i).length<=32:=by
 have b:=h.Z6;have:=(kC h 40 i hi (by omega)).length_le_of_subset (l₂:=List.range c.Z9.length) fun m a=>NZ.2 ((ja h 40 i m hi (by omega)).1 a).1;simp at this;omega
def CH{a b:Type}(f:a->List b)(K:List a)(j:Nat):((K.take j).flatMap f).length<=(K.flatMap f).length:=by
 have e:(K.take j).flatMap f++(K.drop j).flatMap f=K.flatMap f:=by rw[<-Oy,PU]
 have:=N7 List.length e;simp only[NA]at this;omega
def x9{a c:Type}(f:a->List c){K:List a}{j:Nat}{k:a}(b:K[j]? =some k):(K.take (j+1)).flatMap f=(K.take j).flatMap f++f k:=by rw[N4,b,Oy];simp
def pq(env:cf)(c:aq)(h:Right c): ∀(n:Nat)(i:Int), -1<=i->(c.Z9.length:Int)<=i+n->b8 prog env 161 [.agg (aA c),I i] (.own 3 1 ((g7 c i).map aB))
 | n,i,t,o=>by
   have u:=h.Z6;have f0:=dI env c i false (by omega);have w:=DQ h t;have q:=u6 h t;have x:=bU h i false;have g: ∀k∈av c i false,i< (k:Int)/\k<c.Z9.length:=fun k b=>bF h b;generalize av c i false=K at*;rw[w]at q;refine qf func161 call161 ntmps161 results161 ?_;have F:=aA.eq_1;repeat refine ff f0 ?_
   have F:=aA.eq_1;refine lq K.length (by omega) (fun j s=>[(2, .loc 2 (s 2) 0 0),(5, .row 8 (s 8)),(6, .row 11 (s 11)),(7,I j)]) (fun j _=>[(2,⟨5,[aA c],26,false⟩),(8,⟨1,((K.take j).flatMap fun k=>k::g7 c k).map aB,3,true⟩),(11,⟨1,K.map aB,3,true⟩)]) (fun j _ a=>a 8=false) rfl ?_ ?_
   ·rintro j B a d r z f;obtain⟨k,b⟩:=gE d;have y:=g k (My b)
    match n,o with
    |0,o=>omega
    |n+1,o=>
    have f1:=pq env c h n k (by omega) (by omega);have v:=CH (fun k=>k::g7 c k) K (j+1);have e:=x9 (fun k=>k::g7 c k) b;rw[e]at v;simp only[NA,NQ]at v;generalize C:(K.take j).flatMap (fun k=>k::g7 c k)=A at*;have l:dd (A.length+1) 8:=aC (by omega) (by omega);have m:dd (A.length+1+(g7 c k).length) 8:=aC (by omega) (by omega);have F:=qr Us Uu b r z l m f;repeat refine ff f1 ?_
    refine⟨j+1,⟨d,by simp only[go_sem,f]⟩,?_,?_,by omega⟩
    ·exact qe
    have F:=ii Us Uu e @NC.{0,0} @Nj.{0};exact qe
   rintro B a r f;have p:K.take K.length=K:=NS;rw[w];have F:=i0 Uu r p f;exact fc
termination_by n=>n
def Bz(l W:List Nat)(j:Nat):List Nat:=(W.take j).filter fun k:Nat=>D' l (k:Int)
def Hf{l W:List Nat}{j k:Nat}(h:W[j]? =some k):Bz l W (j+1)=if D' l (k:Int) then Bz l W j++[k] else Bz l W j:=by
 unfold Bz;rw[N4,h,N6];cases a:D' l (k:Int)<;>simp[a]
def J3(l W:List Nat)(j:Nat):(Bz l W j).length<=W.length:=by
 unfold Bz;exact NN (NV ..) (by rw[NK];omega)
def Md(l:List Nat)(n:Int):D' l n=(zL l).contains n:=by
 rw[N8,pW,Mz];unfold zL;rw[NG]
def GO{c:aq}{l:List Nat}{j k:Nat}(h:((zL l).take j).all (fi c)=true)(a:l[j]? =some k)(b:fi c k=true):((zL l).take (j+1)).all (fi c)=true:=by
 have:(zL l)[j]? =some ((k:Nat):Int):=by unfold zL;rw[NE,a];rfl
 exact BR h this b
def jY(env:cf)(c:aq)(h:Right c)(l:List Nat)(x:l.length<=1000000):b8 prog env 111 [.agg (aA c), .seq 1 (l.map aB)] (.own 3 1 ((b7 c (zL l)).map aB)):=by
 have s:=h.Z6;refine qw func111 call111 ntmps111 results111 ?_;have F:=aA.eq_1;repeat refine st ?_
 refine aH (D:=Nat) (fun j q=>[(1, .seq 1 (l.map aB)),(2, .loc 2 (q 2) 0 0),(5,I j)]) (fun _ _=>[(2,⟨5,[aA c],26,false⟩)]) (fun j _ _=>j<=l.length/\((zL l).take j).all (fi c)=true) (fun j=>l.length-j) 0 ?_ ?_ ?_ ?_
 ·exact⟨NJ _,rfl⟩
 ·exact qe
 ·have F:=aA.eq_1;exact qe
 rintro j t e ⟨w,b⟩;by_cases a:j<l.length
 ·obtain⟨k,f⟩:=gE a;have d:=ip a;have m:=aD a (by omega);have f0:=sj env c k;cases p:fi c k with
  | false=>
    rw[p]at f0;have F:=ii Us Uu d m f;repeat refine ff f0 ?_
    (refine aM ?_;refine⟨_,(by show (ag _ _ _).run _=some _;simp only[go_sem,F];rfl),?_⟩)
    rw[show b7 c (zL l)=[] from BV (show (zL l)[j]? =some ((k:Nat):Int) by unfold zL;rw[NE,f];rfl) p];exact fN.own_nil _ _ (by decide)
  | true=>
    rw[p]at f0;have F:=ii Us Uu d m f;repeat refine ff f0 ?_
    exact qn (j+1) ⟨a,GO b f p⟩
 obtain rfl:j=l.length:=by omega
 have d:=nl l.length;have f1:=pq env c h 40 (-1) (by omega) (by omega);have v:=u6 h (show (-1:Int)<= -1 by omega);have b:(zL l).all (fi c)=true:=by rwa [Nu (by simp[zL])]at b
 have g:b7 c (zL l)=Bz l (g7 c (-1)) (g7 c (-1)).length:=by
  unfold b7 Bz;rw[Mw b,NS];apply O9;intro k _;rw[Md]
 rw[g];generalize g7 c (-1)=W at*;have F:=ai Us d;repeat refine ff f1 ?_
 refine lq W.length (by omega) (fun j q=>[(1, .seq 1 (l.map aB)),(6, .row 22 (q 22)),(7, .row 24 (q 24)),(8,I j)]) (fun j _=>[(22,⟨1,(Bz l W j).map aB,3,true⟩),(24,⟨1,W.map aB,3,true⟩)]) (fun j _ e=>e 22=false) rfl ?_ ?_
 ·try clear d
  rintro j t e a d m i;obtain⟨k,f⟩:=gE a;have f0:=sk env l k (by omega);have u:=J3 l W j;have r:dd ((Bz l W j).length+1) 8:=aC (by omega) (by omega);have o:=Hf (l:=l) f;cases n:D' l k with
  | true=>
    rw[n]at f0;rw[n,Mw rfl]at o;have F:=kv Uu d m f r i;repeat refine ff f0 ?_
    refine⟨j+1,⟨a,by simp only[go_sem,i]⟩,?_,?_,by omega⟩
    ·exact qe
    have F:=gs Uu o @NC.{0,0};exact qe
  | false=>
    rw[n]at f0;rw[n,Mv Nb]at o;have F:=kv Uu d m f r i;repeat refine ff f0 ?_
    refine⟨j+1,⟨a,by simp only[go_sem,i]⟩,?_,?_,by omega⟩
    ·exact qe
    have F:=gs Uu o @NC.{0,0};exact qe
 try clear d
 rintro t e d i;have F:=ai d i;repeat refine st ?_
 (refine aM ?_;refine⟨_,(by show (ag _ _ _).run _=some _;simp only[go_sem,F];rfl),?_⟩)
 exact fN.refl _
end
section
def uL(env:cf):b8 prog env 73 [b6] (.own 3 1 []):=(dV env [] (by simp)).args (x3.cons (DS.nil 1) x3.nil)
def bP(env:cf)(c:aq):b8 prog env 177 [aG c] (aQ c):=by
 refine qf func177 call177 ntmps177 results177 ?_;have F:=gs UN UL UQ;exact fc
def ay(env:cf)(c:aq)(a:hP c):b8 prog env 66 [aG c] (.agg (aA c)):=by
 have f0:=pw env c a;unfold aA at f0;refine qf func66 call66 ntmps66 results66 ?_;have F:=ai UN UL;repeat refine ff f0 ?_
 (refine aM ?_;show (ag _ _ _).run _=some _;simp only[go_sem,F])
 rfl
def yN(env:cf)(c:aq)(a:c.trans.length<=4096)(s:List UInt8):b8 prog env 49 [aG c,Sg s] (I (Ss c s)):=xi env c (by omega) _ _ s
def Kk(c:aq)(i e:Int):List Nat:=if e<0 then [] else Tq c i e
def Fx(c:aq)(i e:Int):(Tq c i e).length<=c.trans.length:=FE ..
def Cb{c:aq}{i e:Int}{q:Nat}(a:rq (i,e) (cR c c.trans.length) 0=some q):(fO c)[q]? =some [.agg [I i,I e], .seq 1 ((Tq c i e).map aB)]:=by
 have:=(qJ a).2;unfold fO;rw[NE,P9]at*;rw[this];rfl
def GP(env:cf)(c:aq)(f:c.trans.length<=4096)(i e:Int):b8 prog env 234 [aG c,I i,I e] (.own 3 1 ((Kk c i e).map aB)):=by
 have g:=Fx c i e;have a:=FR c i e;unfold Kk;by_cases h:e<0
 ·rw[Mw h];refine qw func234 call234 ntmps234 results234 ?_;have F:=gs UN UL h;repeat refine st ?_
  (refine aM ?_;refine⟨_,(by show (ag _ _ _).run _=some _;simp only[go_sem,F];rfl),?_⟩)
  exact fN.own_nil _ _ (by decide)
 ·rw[Mv h];cases b:rq (i,e) (cR c c.trans.length) 0 with
  | none=>
    rw[b]at a;have f0:=uL env;rw[show Tq c i e=[] from ud (lu b)];refine qf func234 call234 ntmps234 results234 ?_;have F:=i0 UN UL h a;exact kb f0
  | some q=>
    rw[b]at a;have d:=Cb b;have f0:=dV env ((Tq c i e).map aB) (by rw[NT];omega);refine qf func234 call234 ntmps234 results234 ?_;have F:=ii UN UL h a d;exact kb f0
def AN(env:cf)(c:aq)(e:c.trans.length<=4096)(i:Int):b8 prog env 233 [aG c,I i] (.own 3 1 ((Tq c i (-1)).map aB)):=by
 have f:=Fx c i (-1);have a:=FR c i (-1);cases b:rq (i, -1) (cR c c.trans.length) 0 with
 | none=>
   rw[b]at a;have f0:=uL env;rw[show Tq c i (-1)=[] from ud (lu b)];refine qf func233 call233 ntmps233 results233 ?_;have F:=gs UN UL a;exact kb f0
 | some q=>
   rw[b]at a;have d:=Cb b;have f0:=dV env ((Tq c i (-1)).map aB) (by rw[NT];omega);refine qf func233 call233 ntmps233 results233 ?_;have F:=i0 UN UL a d;exact kb f0
def l8(env:cf)(c:aq)(i:Int):b8 prog env 123 [aG c,I i] (B (fi c i)):=by
 unfold fi;by_cases a:0<=i
 ·by_cases b:i< (c.Z9.length:Int)
  ·refine qf func123 call123 ntmps123 results123 ?_;have F:=i0 UN UL a b;exact fc
  refine qf func123 call123 ntmps123 results123 ?_;have F:=i0 UN UL a b;exact fc
 refine qf func123 call123 ntmps123 results123 ?_;have F:=gs UN UL a;exact fc
def h9(c:aq)(i:Int):List Nat:=if fi c (if i= -1 then c.initial else i)=true then Se c (if i= -1 then c.initial else i).toNat else []
def yO(env:cf)(c:aq)(h:ct c)(i:Int):b8 prog env 68 [aG c,I i] (.own 3 1 ((h9 c i).map aB)):=by
 have n:=h.Z6;unfold h9;by_cases e:i= -1
 ·subst e;simp only[Nn];obtain⟨s,l,a,_⟩:=h.topS;have f:=(Mt.1 l).1;have f0:=l8 env c c.initial;have d:fi c c.initial=true:=by rw[a];exact aW.2 f
  rw[d]at f0;rw[d,Mw rfl];have f1:=dV env ((Se c (Es c)).map aB) (by rw[NT];have:=zh h (Es c);omega);have j:(rG c c.Z9.length)[Es c]? =some [.seq 1 ((Se c (Es c)).map aB)]:=by unfold rG;rw[NE,O5 f];rfl
  have b:(rG c c.Z9.length).length=c.Z9.length:=by simp[rG]
  have g:((Es c:Nat):Int)< (c.Z9.length:Int):=by omega
  rw[a]at f0 |-;rw[OP];unfold aG cy at f0 |-;rw[a]at f0 |-;refine qf func68 call68 ntmps68 results68 ?_;have F:=gs j b g;exact ns f0 f1
 ·rw[Mv e];have m:(i == -1)=false:=by simpa using e
  have f0:=l8 env c i;cases d:fi c i with
  | false=>
    rw[d]at f0;rw[Mv (by simp)];unfold aG cy at f0 |-;refine qw func68 call68 ntmps68 results68 ?_;have F:=m;repeat refine ff f0 ?_
    (refine aM ?_;refine⟨_,(by show (ag _ _ _).run _=some _;simp only[go_sem,F];rfl),?_⟩)
    exact fN.own_nil _ _ (by decide)
  | true=>
    obtain⟨k,s,rfl,l,o⟩:=dB d;have f:=(Mt.1 l).1;rw[d]at f0;rw[Mw rfl,OP];have f1:=dV env ((Se c k).map aB) (by rw[NT];have:=zh h k;omega);have j:(rG c c.Z9.length)[k]? =some [.seq 1 ((Se c k).map aB)]:=by unfold rG;rw[NE,O5 f];rfl
    have b:(rG c c.Z9.length).length=c.Z9.length:=by simp[rG]
    have g:((k:Nat):Int)< (c.Z9.length:Int):=by omega
    unfold aG cy at f0 |-;refine qf func68 call68 ntmps68 results68 ?_;have F:=i0 j b g m;exact ns f0 f1
def bc(env:cf)(c:aq)(h:ct c)(i:Int):b8 prog env 185 [aG c,I i] (.own 3 1 ((if i= -1\/fi c i=true then av c i true else []).map aB)):=by
 have d:=h.Z6;have f0:=l8 env c i;have f1:=iB env c i (by omega);unfold aA at f1;unfold aG cy at f0 |-;by_cases e:i= -1
 ·subst e;have a:fi c (-1)=false:=by unfold fi;simp
  rw[a]at f0;rw[Mw (.inl rfl)];refine qf func185 call185 ntmps185 results185 ?_;repeat refine sL f0 f1 ?_
  exact px
 ·have b:(i != -1)=true:=by simpa using e
  cases a:fi c i with
  | false=>
    rw[a]at f0;rw[Mv (by simp[e])];refine qw func185 call185 ntmps185 results185 ?_;have F:=b;repeat refine y3 f0 f1 ?_
    (refine aM ?_;refine⟨_,(by show (ag _ _ _).run _=some _;simp only[go_sem,F];rfl),?_⟩)
    exact fN.own_nil _ _ (by decide)
  | true=>
    rw[a]at f0;rw[Mw (.inr rfl)];refine qf func185 call185 ntmps185 results185 ?_;have F:=b;exact ns f0 f1
def LB(c:aq)(i:Int)(k:Nat):Bool:=match c.Z9[k]? with
 |some s=>fi c i&&((s.parent==i)&&aU s)
 |none=>false
def x5(c:aq)(i:Int):List Nat:=(List.range c.Z9.length).filter (LB c i)
def JO{c:aq}(i:Int)(h:fi c i=true):x5 c i=(av c i false).filter fun k:Nat=> !D' (av c i true) (k:Int):=by
 unfold x5 av bg;rw[List.filter_filter];apply O9;intro k a;have a:=NZ.1 a;obtain⟨s,b⟩:=gE a;have d:dM c i false k=(s.parent==i):=by unfold dM;rw[b];simp
 have f:D' ((List.range c.Z9.length).filter (dM c i true)) (k:Int)=((s.parent==i)&& !aU s):=by
  rw[N8,pW];constructor
  ·rintro⟨j,g,e⟩;have:j=k:=by omega
   subst this;have:=(NF.1 g).2;unfold dM at this;rw[b]at this;simpa using this
  intro e;refine⟨k,NF.2 ⟨NZ.2 a,?_⟩,rfl⟩;unfold dM;rw[b];simpa using e
 unfold LB;rw[d,f,b];simp only[h,Np];cases (s.parent==i)<;>cases aU s<;>rfl
def ow(K R:List Nat)(j:Nat):List Nat:=(K.take j).filter fun k:Nat=> !D' R (k:Int)
def Dd{K R:List Nat}{j k:Nat}(h:K[j]? =some k):ow K R (j+1)=if D' R (k:Int) then ow K R j else ow K R j++[k]:=by
 unfold ow;rw[N4,h,N6];cases a:D' R (k:Int)<;>simp[a]
def HU(K R:List Nat)(j:Nat):(ow K R j).length<=K.length:=by
 unfold ow;exact NN (NV ..) (by rw[NK];omega)
def Cm(env:cf)(c:aq)(h:ct c)(i:Int):b8 prog env 296 [aG c,I i] (.own 3 1 ((x5 c i).map aB)):=by
 have q:=h.Z6;have f0:=l8 env c i;cases l:fi c i with
 | false=>
   rw[l]at f0
   have w:x5 c i=[]:=by
    unfold x5;rw[Pd];intro k _;unfold LB;cases c.Z9[k]? with
    |none=>simp
    |some s=>simp[l]
   rw[w];unfold aG cy at f0 |-;refine qw func296 call296 ntmps296 results296 ?_;repeat refine jG f0 ?_
   (refine aM ?_;refine⟨_,(by show (ag _ _ _).run _=some _;simp only[go_sem];rfl),?_⟩)
   exact fN.own_nil _ _ (by decide)
 | true=>
   rw[l]at f0;rw[JO i l];have f1:=iB env c i (by omega);have f2:=pu env c i (by omega);unfold aA at f1 f2;have t:=bU h.toRight i false;have u:=bU h.toRight i true;generalize av c i true=R at*;generalize av c i false=K at*;unfold aG cy at f0 |-;refine qf func296 call296 ntmps296 results296 ?_;repeat refine Ci f0 f1 f2 ?_
   refine ap 6 6 3 1 ?_;refine Q' K.length (by omega) (fun j o=>[(5, .row 18 (o 18)),(6, .row 6 (o 6)),(24, .row 24 (o 24)),(25,I K.length),(26,I j)]) (fun j _=>[(6,⟨1,(ow K R j).map aB,3,true⟩),(18,⟨1,R.map aB,3,true⟩),(24,⟨1,K.map aB,3,true⟩)]) (fun j _ a=>a 6=false) rfl ?_ ?_
   ·rintro j x a b m r d;obtain⟨k,n⟩:=gE b;have f3:=kB env R k (by omega);have v:=HU K R j;have p:dd ((ow K R j).length+1) 8:=aC (by omega) (by omega);have g:=Dd (R:=R) n;cases f:D' R k with
    | true=>
      rw[f]at f3;rw[f,Mw rfl]at g;have F:=kv Uu m r n p d;repeat refine ff f3 ?_
      refine⟨j+1,⟨b,by simp only[go_sem,d]⟩,?_,?_,by omega⟩
      ·exact qe
      have F:=gs Uu g @NC.{0,0};exact qe
    | false=>
      rw[f]at f3;rw[f,Mv Nb]at g;have F:=kv Uu m r n p d;repeat refine ff f3 ?_
      refine⟨j+1,⟨b,by simp only[go_sem,d]⟩,?_,?_,by omega⟩
      ·exact qe
      have F:=gs Uu g @NC.{0,0};exact qe
   rintro x a m d;have e:ow K R K.length=K.filter fun k:Nat=> !D' R (k:Int):=by unfold ow;rw[NS]
   have F:=gs m e d;exact fc
end
section
def DS.seq{sz:Nat}{a es:List (List AV)}(C:a.length=es.length)(s: ∀(i:Nat)(r e:List AV),a[i]? =some r->es[i]? =some e->x3 r e):DS (.seq sz a) (.seq sz es):=fun S w v h=>by
 have cell: ∀ {i j:Nat}{c:AV},bx es i j=some c-> ∃k,bx a i j=some k/\DS k c:=fun {i j c} f=>by
  unfold bx at f |-;cases g:es[i]? with
  |none=>rw[g]at f;cases f
  | some e=>
    rw[g]at f;have x:=(Mt.1 g).1;have d:a[i]? =some a[i]:=Ms (by omega);obtain⟨m,q⟩:=s i _ e d g;have B:=(Mt.1 (show e[j]? =some c from f)).1;rw[d];exact⟨a[i][j],Ms (by omega),q j _ c (Ms (by omega)) f⟩
 cases h with
 | seq A n p sz a b o u D l t z f y=>
   refine .seq A n p sz es b o u (by omega) l t (fun i e g=> ?_) (fun i j c h=> ?_) fun i j c h=> ?_
   ·have x:=(Mt.1 g).1;have d:a[i]? =some a[i]:=Ms (by omega);rw[<-(s i _ e d g).1];exact z i _ d
   ·obtain⟨k,m,_⟩:=cell h;exact f i j k m
   obtain⟨k,m,q⟩:=cell h;exact q _ _ _ (y i j k m)
def x3.one{a c:AV}(h:DS a c):x3 [a] [c]:= .cons h .nil
def Sa(a es:List (List AV)):Prop:=a.length=es.length/\ ∀(i:Nat)(b e:List AV),a[i]? =some b->es[i]? =some e->x3 b e
def Sa.nil:Sa [] []:=⟨rfl,fun i a c h _=>by simp at h⟩
def Sa.cons{g e:List AV}{c es:List (List AV)}(h:x3 g e)(j:Sa c es):Sa (g::c) (e::es):=⟨by simp[j.1],fun i a b d f=>by
 cases i with
 | zero=>
   simp only[Nr,Mu]at d f;subst d f;exact h
 |succ i=>exact j.2 i a b (by simpa using d) (by simpa using f)⟩
def DS.seqs{sz:Nat}{a es:List (List AV)}(h:Sa a es):DS (.seq sz a) (.seq sz es):= .seq h.1 h.2
end
section
def mS(c:aq):Bool:=decide ((c.Z9.length:Int)<=40)&&decide ((c.trans.length:Int)<=70)&&decide ((c.vars.length:Int)<=10)
def kN(env:cf)(c:aq):b8 prog env 9 [.agg (aA c)] (B ((n9 c).1==0)):=by
 have f0:=DY env c;unfold TE at f0;refine qf func9 call9 ntmps9 results9 ?_;repeat refine jG f0 ?_
 exact px
def lv(c:aq):Bool:=mS c&&((n9 c).1==0)
def MR{c:aq}(h:(n9 c).1=0):n9 c=(0, -1):=by
 unfold n9 at h |-;split at h
 ·simp at h
 rename_i a;rw[Mv a];split at h
 ·simp at h
 rename_i b;rw[Mv b];split at h
 ·simp at h
 rename_i e;try simp only at h |-
 split at h
 ·simp at h
 rename_i f;try simp only at h |-
 split at h
 ·simp at h
 rename_i d;rw[Mv d];split at h
 ·simp at h
 rfl
def xU{c:aq}(h:lv c=true):ct c:=by
 unfold lv at h;rw[Mx,OQ]at h;exact Sk h.2
end
section
def je(c:aq)(i:Int)(s:List UInt8)(k:Nat):Bool:=match c.trans[k]? with|some t=>decide (t.src=i/\t.Z7=s)|none=>false
def it(c:aq)(i:Int)(s:List UInt8)(j:Nat):List Nat:=(List.range j).filter (je c i s)
def jv(p:Nat->Bool)(j:Nat):(List.range (j+1)).filter p=if p j then(List.range j).filter p++[j] else(List.range j).filter p:=by
 rw[PO,N6];cases a:p j<;>simp[a]
def gH(p:Nat->Bool)(j:Nat):((List.range j).filter p).length<=j:=NN (NV ..) (by simp)
def Kr(env:cf)(c:aq)(u:c.trans.length<=4000)(i:Int)(s:List UInt8):b8 prog env 164 [.agg (aA c),I i,Sg s] (.own 3 1 ((it c i s c.trans.length).map aB)):=by
 refine qf func164 call164 ntmps164 results164 ?_;have F:=aA.eq_1;repeat refine st ?_
 have F:=aA.eq_1;refine lq c.trans.length (by omega) (fun j p=>[(1,I i),(2,Sg s),(3, .loc 3 (p 3) 0 0),(7, .row 9 (p 9)),(8,I j)]) (fun j _=>[(3,⟨5,[aA c],26,false⟩),(9,⟨1,(it c i s j).map aB,3,true⟩)]) (fun j _ d=>d 9=false) rfl ?_ ?_
 ·rintro j r d a g n b;obtain⟨t,l⟩:=gE a;have e:it c i s (j+1)=if je c i s j then it c i s j++[j] else it c i s j:=jv (je c i s) j
  have v:(it c i s j).length<=j:=gH (je c i s) j;have o:dd ((it c i s j).length+1) 8:=aC (by omega) (by omega);have q:je c i s j=decide (t.src=i/\t.Z7=s):=by unfold je;rw[l]
  rw[q]at e;by_cases h:t.src=i
  ·by_cases k:t.Z7=s
   ·rw[Mw (by simp[h,k])]at e;have f:(t.src==i)=true:=by simpa using h
    have m:(t.Z7==s)=true:=by simpa using k
    have F:=qs Us Uv g n l f m o b;repeat refine st ?_
    refine⟨j+1,⟨a,by simp only[go_sem,b]⟩,?_,?_,by omega⟩
    ·exact qe
    have F:=i0 Us Uu e @NC.{0,0};exact qe
   rw[Mv (by simp[k])]at e;have f:(t.src==i)=true:=by simpa using h
   have m:(t.Z7==s)=false:=by simpa using k
   have F:=qs Us Uv g n l f m o b;repeat refine st ?_
   refine⟨j+1,⟨a,by simp only[go_sem,b]⟩,?_,?_,by omega⟩
   ·exact qe
   have F:=i0 Us Uu e @NC.{0,0};exact qe
  rw[Mv (by simp[h])]at e;have f:(t.src==i)=false:=by simpa using h
  have F:=qr Us Uv g n l f o b;repeat refine st ?_
  refine⟨j+1,⟨a,by simp only[go_sem,b]⟩,?_,?_,by omega⟩
  ·exact qe
  have F:=i0 Us Uu e @NC.{0,0};exact qe
 rintro r d g b;have F:=gs Us g b;exact fc
def DR(c:aq)(i:Int):it c i [] c.trans.length=Tq c i (-1):=by
 have:=K4 (c:=c) i [] (.inl rfl);rw[zU]at this;rw[this];rfl
def DO(c:aq)(i:Int){s:List UInt8}(d:s≠[]):it c i s c.trans.length=Kk c i (Ss c s):=by
 by_cases h:s∈H' c
 ·obtain⟨k,e,_⟩:=vu h;have:=K4 (c:=c) i s (.inr h);unfold Kk;rw[Mv (by omega),this];rfl
 ·unfold Kk;rw[Fi h,Mw (by omega)];unfold it;rw[Pd];intro k f a;unfold je at a;cases b:c.trans[k]? with
  |none=>rw[b]at a;cases a
  | some t=>
    rw[b]at a;simp only[NI]at a;exact h (zx.2 ⟨d,t,My b,a.2⟩)
def qg(env:cf)(c:aq)(h:ct c): ∀(n i:Nat),i<c.Z9.length->c.Z9.length<=i+n->b8 prog env 112 [.agg (aA c),I i] (.own 3 1 ((tI c i).map aB))
 |0,i,x,H=>by omega
 | n+1,i,x,H=>by
   have D:=h.Z6;obtain⟨s,r⟩:=gE x;have C:=mr h r;have g:=AE h x;have u:((i:Nat):Int)< (c.Z9.length:Int):=by omega
   have f0:=dI env c i true (by omega);have E:=bU h.toRight i true
   have v: ∀k∈av c i true,i<k/\k<c.Z9.length:=fun k f=>by
    have:=bF h.toRight (aY f).1;omega
   generalize av c i true=K at*;rw[C];rw[C]at g;simp only[NQ]at g;refine qf func112 call112 ntmps112 results112 ?_;have F:=ai Us Uu;repeat refine ff f0 ?_
   have F:=gs Us Uu @Rx.{0,0};refine lq K.length (by omega) (fun j B=>[(1,I i),(2, .loc 2 (B 2) 0 0),(5, .row 9 (B 9)),(6, .row 12 (B 12)),(7,I j)]) (fun j _=>[(2,⟨5,[aA c],26,false⟩),(9,⟨1,(i::(K.take j).flatMap fun k=>if s.kind=2\/s.initial=(k:Nat) then tI c k else []).map aB,3,true⟩),(12,⟨1,K.map aB,3,true⟩)]) (fun j _ e=>e 9=false) rfl ?_ ?_
   ·rintro j J e b l z d;obtain⟨k,f⟩:=gE b;have G:=v k (My f);have f1:=qg env c h n k (by omega) (by omega);have q:=CH (fun k:Nat=>if s.kind=2\/s.initial=(k:Nat) then tI c k else []) K (j+1);have a:=x9 (fun k:Nat=>if s.kind=2\/s.initial=(k:Nat) then tI c k else []) f;rw[a]at q;simp only[NA]at q;generalize L:(K.take j).flatMap (fun k:Nat=>if s.kind=2\/s.initial=(k:Nat) then tI c k else [])=A at*;by_cases o:s.kind=2
    ·have m:(s.kind==2)=true:=by simpa using o
     rw[Mw (.inl o)]at q a;have w:dd (A.length+1+(tI c k).length) 8:=aC (by omega) (by omega);have F:=o' Us Ut Uu r f l z u m w d;repeat refine ff f1 ?_
     refine⟨j+1,⟨b,by simp only[go_sem,d]⟩,?_,?_,by omega⟩
     ·exact qe
     have F:=i0 Us Uu a @NC.{0,0};exact qe
    have m:(s.kind==2)=false:=by simpa using o
    by_cases p:s.initial=(k:Nat)
    ·have t:(s.initial==((k:Nat):Int))=true:=by simpa using p
     rw[Mw (.inr p)]at q a;have w:dd (A.length+1+(tI c k).length) 8:=aC (by omega) (by omega);have F:=ed Us Ut Uu r f l z u m t w d;repeat refine ff f1 ?_
     refine⟨j+1,⟨b,by simp only[go_sem,d]⟩,?_,?_,by omega⟩
     ·exact qe
     have F:=i0 Us Uu a @NC.{0,0};exact qe
    have t:(s.initial==((k:Nat):Int))=false:=by simpa using p
    rw[Mv (by simp[o,p]),OM]at a;have F:=o' Us Ut Uu r f l z u m t d;repeat refine ff f1 ?_
    refine⟨j+1,⟨b,by simp only[go_sem,d]⟩,?_,?_,by omega⟩
    ·exact qe
    have F:=i0 Us Uu a @NC.{0,0};exact qe
   rintro J e l d;have y:K.take K.length=K:=NS;have F:=i0 Uu l y d;exact fc
def DZ(env:cf)(c:aq)(h:ct c)(i:Int):b8 prog env 60 [.agg (aA c),I i] (.own 3 1 ((h9 c i).map aB)):=by
 have o:=h.Z6
 have f: ∀(k:Nat),k<c.Z9.length-> ∀(x:Int),(x= -1/\c.initial=k\/x=k)->b8 prog env 60 [.agg (aA c),I x] (.own 3 1 ((Se c k).map aB)):=fun k l x m=>by
  obtain⟨s,a⟩:=gE l;have f0:=sj env c k;rw[show fi c k=true from aW.2 l]at f0;have f1:=ce env s;have f2:=qg env c h 40 k l (by omega);have f3:=jY env c h.toRight (tI c k) (by have:=AE h l;omega);change b8 _ _ _ _ (.own _ 1 ((Se c k).map aB)) at f3;have j:((k:Nat):Int)< (c.Z9.length:Int):=by omega
  rcases m with⟨rfl,m⟩|rfl
  ·cases d:aU s with
   | true=>
     rw[d]at f1;rw[BX h a d];refine qf func60 call60 ntmps60 results60 ?_;have F:=kv Us Ut m a j Uu;exact ns f0 f1
   | false=>
     rw[d]at f1;refine qf func60 call60 ntmps60 results60 ?_;have F:=ii Us Ut m a j;exact TV f0 f1 f2 f3
  ·have g:((k:Int) == -1)=false:=beq_false_of_ne (by omega);cases d:aU s with
   | true=>
     rw[d]at f1;rw[BX h a d];refine qf func60 call60 ntmps60 results60 ?_;have F:=kv Us Ut a j Uu g;exact ns f0 f1
   | false=>
     rw[d]at f1;refine qf func60 call60 ntmps60 results60 ?_;have F:=ii Us Ut a j g;exact TV f0 f1 f2 f3
 unfold h9;by_cases e:i= -1
 ·subst e;simp only[Nn];obtain⟨s,a,b,_⟩:=h.topS;have n:=(Mt.1 a).1;rw[b,Mw (aW.2 n),OP];exact f _ n (-1) (.inl ⟨rfl,b⟩)
 ·rw[Mv e];cases p:fi c i with
  | false=>
    have f0:=sj env c i;rw[p]at f0;rw[Mv (by simp)];have g:(i == -1)=false:=by simpa using e
    refine qw func60 call60 ntmps60 results60 ?_;have F:=ai Us g;repeat refine ff f0 ?_
    (refine aM ?_;refine⟨_,(by show (ag _ _ _).run _=some _;simp only[go_sem,F];rfl),?_⟩)
    exact fN.own_nil _ _ (by decide)
  | true=>
    obtain⟨k,s,rfl,a,q⟩:=dB p;rw[Mw rfl,OP];exact f k (Mt.1 a).1 k (.inr rfl)
end
section
def j5(env:cf)(c:aq)(D:c.Z9.length<=4000)(act:List Int)(E:act.length<=1000000):b8 prog env 181 [aG c, .seq 1 (act.map aa)] (.own 4 1 (ld c.Z9.length act)):=by
 have f0:=bP env c;have f1:=BP env c;have v:=Hl c.Z9.length;have w: ¬(16777216:Int)< (c.Z9.length:Int):=by omega
 have y: ¬(281474976710656:Int)<1*(c.Z9.length:Int):=by omega
 have z: ¬(c.Z9.length:Int)<0:=by omega
 have A: ¬(281474976710656:Int)< (c.Z9.length:Int):=by omega
 unfold aQ at f0 f1;unfold aG at f0 |-;refine qf func181 call181 ntmps181 results181 ?_;have F:=i0 w y z A;repeat refine y3 f0 f1 ?_
 have F:=v;refine lq act.length (by omega) (fun j B=>[(5, .row 11 (B 11)),(12, .seq 1 (act.map aa)),(13,I act.length),(14,I j)]) (fun j _=>[(11,⟨1,ld c.Z9.length (act.take j),4,true⟩)]) (fun j _ e=>e 11=false) rfl ?_ ?_
 ·rintro j C e a g r b;obtain⟨x,h⟩:=gE a;have p:act.take (j+1)=act.take j++[x]:=by rw[N4,h];rfl
  have f:=ei c.Z9.length (act.take j);by_cases t:0<=x
  ·obtain⟨k,rfl⟩:=fg t;by_cases l:k<c.Z9.length
   ·have s:=ip l;have d:=J6 (act:=act.take j) l;have o:=kY (act:=act.take j) l;rw[<-p]at d;have F:=qr h g r s o d f b;repeat refine st ?_
    exact qn (j+1) ⟨a,by simp only[go_sem,b]⟩
   have s: ¬(k:Int)< (c.Z9.length:Int):=by omega
   have d:=CI (n:=c.Z9.length) (act:=act.take j) (i:=(k:Int)) (fun m u=>by omega);rw[<-p]at d;have F:=kv h g r s f b;repeat refine st ?_
   refine⟨j+1,⟨a,by simp only[go_sem,b]⟩,?_,?_,by omega⟩
   ·exact qe
   have F:=d;exact qe
  have d:=CI (n:=c.Z9.length) (act:=act.take j) (i:=x) (fun m u=>by omega);rw[<-p]at d;have F:=kv h g r t f b;repeat refine st ?_
  refine⟨j+1,⟨a,by simp only[go_sem,b]⟩,?_,?_,by omega⟩
  ·exact qe
  have F:=d;exact qe
 rintro C e g b;have q:act.take act.length=act:=NS;have F:=gs g q b;exact fc
def uo(env:cf)(n:Nat)(act:List Int)(ks:List Nat)(_hn:n<=4000)(u:ks.length<=4000)(q: ∀k∈ks,k<n):b8 prog env 184 [.seq 1 (ld n act), .seq 1 (ks.map aB)] (I (ch act ks:Nat)):=by
 have e:=ei n act;have t:ch act []=0:=rfl;refine qf func184 call184 ntmps184 results184 ?_;repeat refine nw ?_
 have F:=t;refine lq ks.length (by omega) (fun j _=>[(0, .seq 1 (ld n act)),(5,I (ch act (ks.take j):Nat)),(8, .seq 1 (ks.map aB)),(9,I ks.length),(10,I j)]) (fun _ _=>[]) (fun _ _ _=>True) trivial ?_ ?_
 ·rintro j s h d g o _;obtain⟨k,b⟩:=gE d;have f:=q k (My b);have p:=ip f;have a:=kY (act:=act) f;have c:=zC (act:=act) b;have i:=zD act (ks.take j);rw[NK]at i;have r:=aD (show ch act (ks.take j)<ks.length by omega) (by omega);cases m:act.contains (k:Int) with
  | true=>
    rw[m]at a c;rw[Mw rfl]at c;have F:=qr Uu b g o p r a e;repeat refine st ?_
    refine⟨j+1,⟨d,trivial⟩,?_,?_,by omega⟩
    ·have F:=c;exact qe
    ·(simp only[go_sem,c])
  | false=>
    rw[m]at a c;rw[Mv Nb,PP]at c;have F:=m7 Uu b g o p a e;repeat refine st ?_
    refine⟨j+1,⟨d,trivial⟩,?_,?_,by omega⟩
    ·have F:=c;exact qe
    ·(simp only[go_sem,c])
 rintro s h g _;have l:ks.take ks.length=ks:=NS;have F:=ai g l;exact fc
def Gq{c:aq}(h:Right c){k:Nat}{s:n4}(a:c.Z9[k]? =some s)(act:List Int):(s.parent<0/\decide (s.parent<0)=true)\/(¬s.parent<0/\decide (s.parent<0)=false/\0<=s.parent/\s.parent< (c.Z9.length:Int)/\(ld c.Z9.length act)[s.parent.toNat]? =some [B (act.contains s.parent)]):=by
 have d:=(Mt.1 a).1;have b:=(h.par k s a).2;by_cases e:s.parent<0
 ·exact .inl ⟨e,Ny e⟩
 refine .inr ⟨e,Nm e,by omega,by omega,?_⟩;rw[kY (by omega)];rw[show ((s.parent.toNat:Nat):Int)=s.parent by omega]
def J7(env:cf)(c:aq)(h:ct c)(act:List Int)(k:Nat)(s:n4)(i:c.Z9[k]? =some s):b8 prog env 182 [.agg (aA c),aG c, .seq 1 (ld c.Z9.length act),I k] (B (zO c act k s)):=by
 have H:=h.Z6;have J:=(Mt.1 i).1;have l:((k:Nat):Int)< (c.Z9.length:Int):=by omega
 have f0:=bc env c h k;rw[Mw (.inr (aW.2 J))]at f0;have M:=bU h.toRight k true;have C: ∀j∈av c k true,j<c.Z9.length:=fun j L=>by have:=bF h.toRight (aY L).1;omega
 have f1:=uo env c.Z9.length act (av c k true) (by omega) (by omega) C;have o:=ei c.Z9.length act;have A:=Gq h.toRight i act;have G:zO c act k s=(!aU s&&(decide (s.parent<0)||act.contains s.parent)&&(if s.kind=1/\av c k true≠[] then ch act (av c k true)==1 else if s.kind=2 then ch act (av c k true)==(av c k true).length else true)):=rfl;rw[G];try clear G
 generalize av c k true=K at*;unfold aG at f0 |-;by_cases D:s.kind=4
 ·have b:(s.kind==4)=true:=by simpa using D
  have x:aU s=true:=by unfold aU;rw[b];rfl
  rw[x];refine qf func182 call182 ntmps182 results182 ?_;have F:=ii Us Ut i l b;exact kb f0
 have b:(s.kind==4)=false:=by simpa using D
 by_cases E:s.kind=5
 ·have g:(s.kind==5)=true:=by simpa using E
  have x:aU s=true:=by unfold aU;rw[g,Bool.or_true]
  rw[x];refine qf func182 call182 ntmps182 results182 ?_;have F:=kv Us Ut i l b g;exact kb f0
 have g:(s.kind==5)=false:=by simpa using E
 have x:aU s=false:=by unfold aU;rw[b,g];rfl
 rw[x];by_cases y:s.kind=1
 ·have m:(s.kind==1)=true:=by simpa using y
  by_cases p:K=[]
  ·rw[Mv (by simp[p]),Mv (by omega)];have w: ¬(0:Int)< (K.length:Int):=by rw[p];simp
   rcases A with⟨d,f⟩|⟨d,f,q,r,t⟩
   ·refine qf func182 call182 ntmps182 results182 ?_;have F:=mX Us Ut i l b g m w d f;exact kb f0
   refine qf func182 call182 ntmps182 results182 ?_;have F:=ed Us Ut i l b g m w d f q<|gs r t o;exact kb f0
  rw[Mw ⟨y,p⟩];have w:(0:Int)< (K.length:Int):=by have:=Oi.2 p;omega
  by_cases n:ch act K=1
  ·have a:((ch act K:Nat):Int)=1:=by omega
   rw[n];rcases A with⟨d,f⟩|⟨d,f,q,r,t⟩
   ·refine qf func182 call182 ntmps182 results182 ?_;have F:=o' Us Ut i l b g m w a d f;exact ns f0 f1
   refine qf func182 call182 ntmps182 results182 ?_;have F:=ed Us Ut i l b g m w a d f<|i0 q r t o;exact ns f0 f1
  have a:(((ch act K:Nat):Int) != 1)=true:=by simp;omega
  have u:(ch act K==1)=false:=by simpa using n
  rw[u];refine qf func182 call182 ntmps182 results182 ?_;have F:=qs Us Ut i l b g m w a;exact ns f0 f1
 have m:(s.kind==1)=false:=by simpa using y
 rw[Mv (fun e=>y e.1)];by_cases z:s.kind=2
 ·have v:(s.kind==2)=true:=by simpa using z
  rw[Mw z];by_cases n:ch act K=K.length
  ·have a:(((ch act K:Nat):Int) != (K.length:Int))=false:=by simp;omega
   rw[n];rcases A with⟨d,f⟩|⟨d,f,q,r,t⟩
   ·refine qf func182 call182 ntmps182 results182 ?_;have F:=o' Us Ut i l b g m v a d f;exact ns f0 f1
   refine qf func182 call182 ntmps182 results182 ?_;have F:=ed Us Ut i l b g m v a d f<|i0 q r t o;exact ns f0 f1
  have a:(((ch act K:Nat):Int) != (K.length:Int))=true:=by simp;omega
  have u:(ch act K==K.length)=false:=by simpa using n
  rw[u];refine qf func182 call182 ntmps182 results182 ?_;have F:=qs Us Ut i l b g m v a;exact ns f0 f1
 have v:(s.kind==2)=false:=by simpa using z
 rw[Mv z];rcases A with⟨d,f⟩|⟨d,f,q,r,t⟩
 ·refine qf func182 call182 ntmps182 results182 ?_;have F:=mX Us Ut i l b g m v d f;exact kb f0
 refine qf func182 call182 ntmps182 results182 ?_;have F:=ed Us Ut i l b g m v d f q<|gs r t o;exact kb f0
def IE(env:cf)(a b:Addr)(d:gb env a b)(p:Int)(e: -1<=p):b8 prog env 183 [I p] (c0 p (bt a)):=by
 have c:=gg d.e1;have f0:=zS env [108,101,103,97,108,46,67,104,101,99,107] p a e;refine qf func183 call183 ntmps183 results183 ?_;have F:=c;exact kb f0
def wC(a:Addr)(c:aq)(act:List Int):AV:=if tU c act=true then ik else c0 (rX c act).2 (bt a)
def C6{a:Addr}{c:aq}{act:List Int}{p:Int}(h:rX c act=(1,p)):wC a c act=c0 p (bt a):=by
 unfold wC tU;rw[h];rfl
def LW{a:Addr}{c:aq}{act:List Int}{p:Int}(h:rX c act=(0,p)):wC a c act=ik:=by
 unfold wC tU;rw[h];rfl
def zF{c:aq}{act:List Int}{j:Nat}{x:Int}(a:act[j]? =some x):zG c act j=((j==0||decide (act.getD (j-1) 0<x))&&vn c act x):=by unfold zG;rw[a]
def J8{c:aq}{act:List Int}{k:Nat}{s:n4}(a:c.Z9[k]? =some s):vn c act (k:Int)=zO c act k s:=by
 unfold vn;rw[bK,a];rfl
def vJ{c:aq}{act:List Int}{x:Int}(b:fi c x=false):vn c act x=false:=by
 unfold vn at_;unfold fi at b;by_cases a:0<=x
 ·rw[Mw a];rw[Ny a,Np,Nw]at b;rw[NL (by omega)]
 rw[Mv a]
end
section
def Ks{act:List Int}{j:Nat}(a:0<j)(b:j<act.length):act[j-1]? =some (act.getD (j-1) 0):=by
 rw[N3,Ms (show j-1<act.length by omega)];rfl
def bz(l:List Int):bM (l.map tY)=l.map aa:=by
 unfold bM;rw[P4];rfl
end
end Go.Proofs.YtfhkmjbjafeckaaGreatDoor
