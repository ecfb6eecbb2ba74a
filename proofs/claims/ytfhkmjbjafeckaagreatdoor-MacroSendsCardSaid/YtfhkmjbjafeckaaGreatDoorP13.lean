/- tree.New, of a right chart. -/
import Derived.Test.YtfhkmjbjafeckaaGreatDoorP12
import Derived.Test.YtfhkmjbjafeckaaGreatDoorP11
set_option maxRecDepth 100000
set_option maxHeartbeats 8000000
set_option linter.unusedSimpArgs false
set_option linter.defProp false
namespace Go.Proofs.YtfhkmjbjafeckaaGreatDoor
open Go.Proofs.Tryz
section
open Go.RowKit
def rV(a b:Addr)(c:aq):AV:=if (n5 c).1=0 then h9 else if (n5 c).1=8 then dt (n5 c).2 (bx b) else dt (n5 c).2 (bx a)
def xn{a b:Addr}{c:aq}{p:Int}(h:n5 c=(0,p)):rV a b c=h9:=by unfold rV;rw[h];rfl
def nV{b a:Addr}{c:aq}{p:Int}(h:n5 c=(8,p)):rV b a c=dt p (bx a):=by unfold rV;rw[h];rfl
def cu{a b:Addr}{c:aq}{p:Int}(h:n5 c=(1,p)):rV a b c=dt p (bx a):=by unfold rV;rw[h];rfl
def lv{c:aq}{i:Nat}{v:PJ}(h:c.vars[i]? =some v):jl c i=qR c i v:=by unfold jl;rw[h]
def pD{c:aq}{i:Nat}{s:nr}(h:c.Z9[i]? =some s):lw c i=cN c i s:=by unfold lw;rw[h]
def pC{c:aq}{i:Nat}{t:tR}(h:c.trans[i]? =some t):rW c i=da c t:=by unfold rW;rw[h]
def gy{p:Nat->Bool}{i:Nat}(h: ∀j,j<i->p j=true)(hi:p i=true): ∀j,j<i+1->p j=true:=fun j a=>by
 by_cases e:j=i
 ·rw[e];exact hi
 exact h j (by omega)
def HD(env:b8)(z r:Addr)(J:fU env z r)(c:aq)(hc:jN c)
 (hV:c.vars.length<=8-> ∀(i:Nat)(v:PJ),c.vars[i]? =some v->b7 prog env 143 [.agg (aA c),I i] (B (qR c i v)))
 (hS:c.Z9.length<=32-> ∀(i:Nat)(s:nr),c.Z9[i]? =some s->b7 prog env 144 [.agg (aA c),I i] (B (cN c i s)))
 (hT: ∀t,t∈c.trans->b7 prog env 147 [.agg (aA c), .agg (ax t)] (B (da c t))):b7 prog env 81 [.agg (aA c)] (rV z r c):=by
 have T:=iT J.e8;have k:=eC env c.name (by have:=hc.1;unfold maxLen at this;omega);have d:=oe env z r J (-1) (by omega);have o:=yn env c c.initial;have z1:=fJ c.Z9;refine qf func81 call81 ntmps81 results81 ?_;by_cases l1:32<c.Z9.length
 ·have y:(32:Int)< (c.Z9.length:Int):=by omega
  rw[nV (show n5 c=(8, -1) by unfold n5;rw[Mw (.inl l1)])];have F:=gb Uv y T;repeat (first|refine st ?_|refine cC (bl env _ r) ?_)
  exact aR
 have y: ¬(32:Int)< (c.Z9.length:Int):=by omega
 by_cases l2:64<c.trans.length
 ·have C:(64:Int)< (c.trans.length:Int):=by omega
  rw[nV (show n5 c=(8, -1) by unfold n5;rw[Mw (.inr (.inl l2))])];have F:=hU Uv y C T;repeat (first|refine st ?_|refine cC (bl env _ r) ?_)
  exact aR
 have C: ¬(64:Int)< (c.trans.length:Int):=by omega
 by_cases l3:8<c.vars.length
 ·have L:(8:Int)< (c.vars.length:Int):=by omega
  rw[nV (show n5 c=(8, -1) by unfold n5;rw[Mw (.inr (.inr l3))])];have F:=g9 Uv y C L T;repeat (first|refine st ?_|refine cC (bl env _ r) ?_)
  exact aR
 have L: ¬(8:Int)< (c.vars.length:Int):=by omega
 have U: ¬(32<c.Z9.length\/64<c.trans.length\/8<c.vars.length):=by omega
 cases G:bp c.name
 ·rw[cu (show n5 c=(1, -1) by unfold n5;rw[Mt U,Mw (.inr G)])];have F:=g9 Uv y C L G;exact mw k d
 cases N:(c.Z9 == [])
 case true=>
  rw[cu (show n5 c=(1, -1) by unfold n5;rw[Mt U,Mw (.inl (by simpa using N))])];have F:=mc Uv y C L G z1 N;exact mw k d
 have V: ¬(c.Z9=[]\/bp c.name=false):=by
  rw[G];simpa using N
 have g:n5 c=(match bF (jl c) c.vars.length with
  |some i=>(1,2000+(i:Int))
  | none=>match bF (lw c) c.Z9.length with
    |some i=>(1,(i:Int))
    | none=>if mi c=false then(1, -1) else match bF (rW c) c.trans.length with
      |some i=>(1,1000+(i:Int))
      |none=>(0, -1)):=by
  unfold n5;rw[Mt U,Mt V];rfl
 have F:=mc Uv y C L G z1 N;repeat refine wc k d ?_
 refine lp (D:=Nat) (fun i M=>[(1, .loc 1 (M 1) 0 0),(38,I c.vars.length),(39,I i)]) (fun _ _=>[(1,⟨5,[aA c],26,false⟩)]) (fun i _ _=>i<=c.vars.length/\ ∀j,j<i->jl c j=true) (fun i=>c.vars.length-i) 0 ⟨NG _,fun j K=>by omega⟩ ?_;rintro i E n ⟨P,a⟩;by_cases b:i<c.vars.length
 ·obtain⟨v,Z,_⟩:=aS b;have h:=it b;have x:=aD b (by omega);have f:=hV (by omega) i v Z;cases e:qR c i v
  ·have q3:IntKind.i64.wrap (2000+(i:Int))=2000+(i:Int):=aW (by omega) (by omega);have H:=oe env z r J (2000+(i:Int)) (by omega);rw[cu (show n5 c=(1,2000+(i:Int)) by rw[g,dO b a (by rw[lv Z];exact e)])];have F:=g9 Uv h x q3 e;exact mw f H
  have F:=hU Uv h x e;repeat refine fc f ?_
  exact qn (i+1) ⟨b,gy a (by rw[lv Z];exact e)⟩
 have h: ¬(i:Int)< (c.vars.length:Int):=by omega
 have hvn:bF (jl c) c.vars.length=none:=bK fun j K=>a j (by omega);rw[hvn]at g;have F:=ai Uv h;repeat refine st ?_
 refine lp (D:=Nat) (fun i M=>[(1, .loc 1 (M 1) 0 0),(52,I c.Z9.length),(53,I i)]) (fun _ _=>[(1,⟨5,[aA c],26,false⟩)]) (fun i _ _=>i<=c.Z9.length/\ ∀j,j<i->lw c j=true) (fun i=>c.Z9.length-i) 0 ⟨NG _,fun j K=>by omega⟩ ?_;try clear E n P a h b i
 rintro i E n ⟨P,a⟩;by_cases b:i<c.Z9.length
 ·obtain⟨s,W,_⟩:=aS b;have h:=it b;have x:=aD b (by omega);have f:=hS (by omega) i s W;cases e:cN c i s
  ·have H:=oe env z r J (i:Int) (by omega);rw[cu (show n5 c=(1,(i:Int)) by rw[g,dO b a (by rw[pD W];exact e)])];have F:=hU Uv h x e;exact mw f H
  have F:=hU Uv h x e;repeat refine fc f ?_
  exact qn (i+1) ⟨b,gy a (by rw[pD W];exact e)⟩
 have h: ¬(i:Int)< (c.Z9.length:Int):=by omega
 have X:bF (lw c) c.Z9.length=none:=bK fun j K=>a j (by omega);rw[X]at g;by_cases R:0<=c.initial
 case neg=>
  have w:mi c=false:=by unfold mi at_;rw[Mt R]
  rw[cu (show n5 c=(1, -1) by rw[g,Mw w])];have F:=gb Uv h R;exact mw o d
 obtain⟨m,u⟩:=fg R;by_cases S:(m:Int)< (c.Z9.length:Int)
 case neg=>
  have w:mi c=false:=by unfold mi;rw[u,bN,NI (by omega)]
  have p2':(c.initial< (c.Z9.length:Int))=False:=by rw[u];simpa using S
  rw[cu (show n5 c=(1, -1) by rw[g,Mw w])];have F:=hU Uv h R p2';exact mw o d
 obtain⟨q,Q,_⟩:=aS (show m<c.Z9.length by omega);have l:=jC env q;have p:mi c=((q.parent == -1)&&eR q):=by unfold mi;rw[u,bN,Q]
 rw[u]at o;cases A:(q.parent == -1)
 ·rw[cu (show n5 c=(1, -1) by rw[g,Mw (by rw[p,A];rfl)])];have F:=n4 Uv Uw h u S Q A jO;exact An o d l
 cases O:eR q
 ·rw[cu (show n5 c=(1, -1) by rw[g,Mw (by rw[p,A,O];rfl)])];have F:=qr Uv Uw h u S Q A O jO;exact An o d l
 rw[Mt (by rw[p,A,O];simp)]at g;have F:=qr Uv Uw h u S Q A O jO;repeat refine Sx o d l ?_
 have F:=ai Uv u;refine lq c.trans.length (by omega) (fun i M=>[(1, .loc 1 (M 1) 0 0),(90,sT c.trans),(91,I c.trans.length),(92,I i)]) (fun _ _=>[(1,⟨5,[aA c],26,false⟩)]) (fun i _ _=> ∀j,j<i->rW c j=true) (fun j K=>by omega) ?_ ?_
 ·try clear E n P a h b i
  rintro i E n b h x a;obtain⟨t,w,Y⟩:=aS b;have f:=hT t Y;cases e:da c t
  ·have q3:IntKind.i64.wrap (1000+(i:Int))=1000+(i:Int):=aW (by omega) (by omega);have H:=oe env z r J (1000+(i:Int)) (by omega);rw[cu (show n5 c=(1,1000+(i:Int)) by rw[g,dO b a (by rw[pC w];exact e)])];have F:=mc Uv Uy h x q3 w e;exact mw f H
  have F:=i' Uv Uy h x w e;repeat refine fc f ?_
  exact qn (i+1) ⟨b,gy a (by rw[pC w];exact e)⟩
 try clear E n P a h b i
 rintro E n h a;rw[xn (show n5 c=(0, -1) by rw[g,bK fun j K=>a j (by omega)])];have F:=ai Uv h;exact ek
def nI{n:Nat}(h:n<=maxLen):n<=9223372036854775807:=by unfold maxLen at h;omega
def jo{l:List j'}(h:l.length<=maxLen/\ ∀y∈l,iU y):l.length<=9223372036854775807/\ ∀a∈l,a.name.length<=9223372036854775807:=⟨nI h.1,fun a b=>nI (h.2 a b).1⟩
def DY(env:b8)(d e:Addr)(g:fU env d e)(c:aq)(j:c.Z9.length<=1000000)(i:Nat)(s:nr)(b:c.Z9[i]? =some s)(a:vn s):b7 prog env 144 [.agg (aA c),I i] (B (cN c i s)):=by
 have h:i<c.Z9.length:=(Mr.1 b).1;have k:=it h;have f1:=eC env s.name (nI a.1);have f2:=HB env c s.name j;have f3:=A9 env c i s b;have f5:=pn env d e g c s.ZW (jo a.2.1).1 (jo a.2.1).2;have f6:=pn env d e g c s.out (jo a.2.2).1 (jo a.2.2).2;unfold cN;refine qf func144 call144 ntmps144 results144 ?_;cases f:dF c i s
 ·have F:=g9 Uv k b Uw f;exact An f1 f2 f3
 have f4:=DZ env c i s b j (Gp h f) (nI a.2.1.1) (nI a.2.2.1);have F:=g9 Uv k b Uw f;exact TC f1 f2 f3 f4 f5 f6
def qk{c:aq}{nm:List UInt8}{j:Nat}{x:PJ}(h:newVar c nm j=true)(a:c.vars[j]? =some x)(e:(x.name==nm)=false):newVar c nm (j+1)=true:=by
 unfold newVar at h |-;exact du h a (by rw[e];rfl)
def Iv(env:b8)(c:aq)(w:c.vars.length<=1000000)(i:Nat)(v:PJ)(h:c.vars[i]? =some v)(n:pS v):b7 prog env 143 [.agg (aA c),I i] (B (qR c i v)):=by
 have o:i<c.vars.length:=(Mr.1 h).1;have r:=it o;have s:(i:Int)<=(c.vars.length:Int):=by omega
 have f1:=eC env v.name (nI n);have f2:=dH env v.start;have a:(c.vars.take i).length=i:=by rw[NJ];omega
 refine qf func143 call143 ntmps143 results143 ?_;have F:=mc Uv r s h UU a Pb;repeat refine st ?_
 refine lp (D:=Nat) (fun j t=>[(5, .loc 5 (t 5) 0 0),(16,pf (c.vars.take i)),(17,I i),(18,I j)]) (fun _ _=>[(5,⟨2,[iK v],140,false⟩)]) (fun j _ _=>j<=i/\newVar c v.name j=true) (fun j=>i-j) 0 ⟨NG _,rfl⟩ ?_;rintro j y m ⟨u,d⟩;by_cases b:j<i
 ·obtain⟨x,k,_⟩:=aS (show j<c.vars.length by omega);have f:(c.vars.take i)[j]? =some x:=by rw[N8,Mw b];exact k
  have g:=it b;have l:=aD b (by omega);cases e:(x.name==v.name)
  ·have F:=i' g l f a UU e;repeat refine st ?_
   exact qn (j+1) ⟨b,qk d k e⟩
  rw[show qR c i v=false by unfold qR newVar;rw[mf (p:=fun x:PJ=> !(x.name==v.name)) f (by rw[e];rfl)];rfl];have F:=i' g l f a UU e;exact ek
 have g: ¬(j:Int)< (i:Int):=by omega
 obtain rfl:j=i:=by omega
 have q:qR c j v=(bp v.name&& !(v.name == [100,97,116,97])&& !(v.name == [105,110])&&aL v.start):=by
  unfold qR aL;rw[d];simp only[Nj,Rl]
 rw[q];have F:=gb g UU jO;exact mw f1 f2
def Gy(env:b8)(d e:Addr)(i:fU env d e)(c:aq)(t:tR)(f:vm t):b7 prog env 147 [.agg (aA c), .agg (ax t)] (B (da c t)):=by
 have f1:=yn env c t.src;have f3:=eC env t.Z8 (nI f.1);have f4:=wh env d e i c t.guard;have f5:=pn env d e i c t.Z0 (jo f.2.2).1 (jo f.2.2).2;have f6:=yn env c t.target;have l:=fJ t.guard;by_cases b:0<=t.src
 case neg=>
  rw[show da c t=false by unfold da az at_;rw[Mt b];rfl];refine qf func147 call147 ntmps147 results147 ?_;have F:=gb Uv Uy b;exact hH f1
 obtain⟨m,a⟩:=fg b;by_cases h:(m:Int)< (c.Z9.length:Int)
 case neg=>
  rw[show da c t=false by unfold da az;rw[a,bN,NI (by omega)];rfl];have g:(t.src< (c.Z9.length:Int))=False:=by rw[a];simpa using h
  refine qf func147 call147 ntmps147 results147 ?_;have F:=hU Uv Uy b g;exact hH f1
 obtain⟨q,j,_⟩:=aS (show m<c.Z9.length by omega);have f2:=jC env q;have k:da c t=(eR q&&((t.Z8 == [])||bp t.Z8)&&((t.guard == [])||br t.guard c.vars.length c.Z9.length)&&eS c.vars.length c.Z9.length t.Z0&&((t.target == -1)||(decide (0<=t.target)&&decide (t.target<c.Z9.length)))):=by unfold da;rw[a,kM j]
 rw[k];rw[a]at f1;refine qf func147 call147 ntmps147 results147 ?_;have F:=mc Uv Uy Uw a h j l;exact TC f1 f2 f3 f4 f5 f6
end
section
open Go.RowKit Go.ChangeShapes
def D2(env:b8)(a b:Addr)(e:fU env a b)(c:aq)(d:jN c):b7 prog env 81 [.agg (aA c)] (rV a b c):=
 HD env a b e c d (fun h i v g=>Iv env c (by omega) i v g (d.2.1.2 v (Mv g))) (fun h i s f=>DY env a b e c (by omega) i s f (d.2.2.1.2 s (Mv f))) (fun t j=>Gy env a b e c t (d.2.2.2.2 t j))
end
section
open Go.RowKit
def m5:List Nat->Nat->List Nat->List Nat
 |[],_,a=>a
 |k::l,n,a=>m5 l (n+1) (a.set k n)
def qg: ∀(l:List Nat)(n:Nat)(a:List Nat),(m5 l n a).length=a.length
 |[],_,_=>rfl
 |k::l,n,a=>by unfold m5;rw[qg,PF]
def qh: ∀(a b:List Nat)(n:Nat)(c:List Nat),m5 (a++b) n c=m5 b (n+a.length) (m5 a n c)
 |[],_,_,_=>rfl
 | k::a,b,n,c=>by
   show m5 (a++b) (n+1) (c.set k n)=m5 b (n+(a.length+1)) (m5 a (n+1) (c.set k n));rw[qh,QV,Rx 1]
def TR(ps ks c a:List (List AV))(b:Value)(g:Nat->Nat)(d l:List Nat):List (Nat×Row):=
 [(1000,⟨7,[[.seq 1 ps, .seq 1 ks, .seq 1 c, .seq 1 a, .row 1001 (g 1001), .row 1002 (g 1002), .lit b]],171,false⟩),(1001,⟨1,d.map aB,3,true⟩),(1002,⟨1,l.map aB,3,true⟩)]
def U0:=@TR.eq_1
def Fm(c:aq)(K:List Nat)(j:Nat):List Nat:=(K.take j).flatMap fun k=>k::gu c k
def GA{c:aq}{K:List Nat}{j k:Nat}(h:K[j]? =some k):Fm c K (j+1)=Fm c K j++k::gu c k:=by
 unfold Fm;rw[N1,h,Ox];simp
def I5{c:aq}(K:List Nat):Fm c K K.length=K.flatMap fun k=>k::gu c k:=by
 unfold Fm;rw[NR]
def K8{c:aq}(K:List Nat)(j:Nat):(Fm c K j).length<=(K.flatMap fun k=>k::gu c k).length:=by
 conv=>rhs;rw[<-PU j K,Ox,My]
 exact Rt _ _
def zq(P:Program)(env:b8)(f:FuncId)(c:aq)(ps ks d a:List (List AV))(b:Value)(i:Int)(l e:List Nat):Prop:=
 ip P env f [1000,1001,1002] (fun k=>k==1002) (fun g=>[.loc 1000 (g 1000) 0 0, .agg (aA c),I i]) (fun g=>TR ps ks d a b g e l) (fun g=>TR ps ks d a b g (m5 (gu c i) l.length e) (l++gu c i)) (fun _=> .lit (.tuple #[]))
def wJ(env:b8)(c:aq)(z:Right c)(ps ks G y:List (List AV))(E:Value)(i:Int)(l g:List Nat)(hi: -1<=i)(v:g.length=c.Z9.length)(q:l.length+(gu c i).length<=1000000)
 (R: ∀k∈av c i false,∀l g,g.length=c.Z9.length->l.length+(gu c k).length<=1000000->zq prog env 84 c ps ks G y E k l g):zq prog env 84 c ps ks G y E i l g:=by
 unfold zq at*
 have s:=z.Z6;have f0:=pk env c i (by omega);rw[FL z hi]at q |-;have H:(av c i false).length<=32:=NK (dS c i false _) s;generalize P:av c i false=K at*;refine qi func84 call84 ntmps84 results84 ?_;intro N O e;have m:=e 1000 (by simp);have n:=e 1001 (by simp);have o:=e 1002 (by simp);have F:=g9 U0 m n o Uv;repeat refine fc f0 ?_
 refine aH (D:=Nat) (fun j a=>[(0, .loc 1000 (a 1000) 0 0),(4, .loc 4 (a 4) 0 0),(10, .row 10 (a 10)),(11,I K.length),(12,I j)]) (fun j a=>TR ps ks G y E a (m5 (Fm c K j) l.length g) (l++Fm c K j)++[(4,⟨5,[aA c],26,false⟩),(10,⟨1,K.map aB,3,true⟩)]) (fun j a d=>(j<=K.length/\a 1000=N 1000/\a 1001=N 1001)/\d 1000=false/\d 1001=false/\d 1002=false) (fun j=>K.length-j) 0 ?_ ?_ ?_ ?_
 ·exact⟨⟨NG _,by simp only[go_sem],by simp only[go_sem]⟩,by simp only[go_sem,m],by simp only[go_sem,n],by simp only[go_sem,o]⟩
 ·exact qe
 ·have F:=ai U0 Uv
  (simp only[go_sem,F])
  refine⟨rfl,?_⟩;show _=(⟨1,List.map aB (l++[]),3,true⟩:Row);rw[OP]
 try clear m n o
 rintro j W d ⟨⟨V,L,M⟩,m,n,o⟩;by_cases h:j<K.length
 ·obtain⟨k,x⟩:=gE h;have A:k∈av c i false:=by rw[P];exact Mv x
  have U:=bJ z A;have b:=GA (c:=c) x;have r:=K8 (c:=c) K (j+1);have w:=qg (Fm c K j) l.length g;have t:=qh (Fm c K j) (k::gu c k) l.length g;rw[b]at r;rw[My,NN]at r;generalize m5 (Fm c K j) l.length g=f at*;have f1:=R k (Mv x) (l++Fm c K j++[k]) (f.set k (l++Fm c K j).length) (by rw[PF,w,v]) (by simp only[My,NN,Pq];omega);have C:=it h;have S:=aD h (by omega);have T:((k:Nat):Int)< (f.length:Int):=by rw[w,v];omega
  obtain⟨J,B⟩: ∃J,f[k]? =some J:=⟨f[k]'(by omega),Mq _⟩;have Q:cU (l.length+(Fm c K j).length+1) 8:=⟨by omega,by omega⟩;have F:=ed U0 m n o Uv C S T x Q Ux<|gb @NA.{0,0} B @QC.{0,0};have u:m5 (Fm c K (j+1)) l.length g=m5 (gu c k) (l.length+(Fm c K j).length+1) (f.set k (l.length+(Fm c K j).length)):=by rw[b,t];rfl
  repeat refine st ?_
  refine iL [(1000,1000),(1001,1001),(1002,1002)] f1 ?_;repeat refine st ?_
  refine⟨j+1,⟨⟨h,?_,?_⟩,?_,?_,?_⟩,?_,?_,by omega⟩
  ·simp only[go_sem];exact L
  ·simp only[go_sem];exact M
  ·simp only[go_sem,m]
  ·simp only[go_sem,n]
  ·simp only[go_sem,o]
  ·exact qe
  have F:=n4 U0 Uv Ux @NA.{0,0} @QC.{0,0} u b @Nl.{0}
  (simp only[go_sem,F])
  rw[t];rfl
 obtain rfl:j=K.length:=by omega
 have C:=nl K.length;have p:=I5 (c:=c) K;have F:=qr U0 m n o Uv C p L M;repeat refine st ?_
 exact rN
def BD(env:b8)(c:aq)(e:Right c)(ps ks h f:List (List AV))(g:Value): ∀(n:Nat)(i:Int)(l b:List Nat), -1<=i->(c.Z9.length:Int)<=i+n->b.length=c.Z9.length->l.length+(gu c i).length<=1000000->zq prog env 84 c ps ks h f g i l b
 |0,i,l,b,j,q,d,a=>wJ env c e ps ks h f g i l b j d a fun k m=>by have:=bJ e m;omega
 |n+1,i,l,b,j,q,d,a=>wJ env c e ps ks h f g i l b j d a fun k m l b o p=>by have:=bJ e m;exact BD env c e ps ks h f g n k l b (by omega) (by omega) o p
def jI(m:Nat):List AV:=[.lit (.int .u32 m)]
def UW:=@jI.eq_1
def mL(c:aq)(i:Nat):List Nat:=(List.range c.Z9.length).map fun j=>if j<i then pc c j else 0
def Dj(c:aq)(i:Nat)(s:nr):Bool:=s.kind != 4&&s.kind != 5&&(((av c i true).length:Int)==0)
def cz(c:aq):Nat->Nat
 |0=>0
 | i+1=>match c.Z9[i]? with
   |some s=>if Dj c i s then cz c i||| 2^i else cz c i
   |none=>cz c i
def wt(c:aq):(mL c 0).map jI=List.replicate c.Z9.length [.lit (.int .u32 0)]:=by
 unfold mL;rw[P5]
 have: ∀n:Nat,(List.range n).map (jI ∘ fun(j:Nat)=>if j<0 then pc c j else 0)=List.replicate n [.lit (.int .u32 0)]:=fun n=>by
  rw[List.eq_replicate_iff];refine⟨by simp,fun b a=> ?_⟩;obtain⟨j,_,rfl⟩:=NE.1 a;rfl
 exact this _
def kS{c:aq}{i j:Nat}(a:j<c.Z9.length):(mL c i)[j]? =some (if j<i then pc c j else 0):=by
 unfold mL;rw[NB,O8 a];rfl
def d8(c:aq)(i:Nat):(mL c i).length=c.Z9.length:=by simp[mL]
def Bd{c:aq}{i:Nat}(hi:i<c.Z9.length):(mL c i).set i (pc c i)=mL c (i+1):=by
 apply Nv;intro k;by_cases b:k<c.Z9.length
 ·rw[kS b,O0,d8];by_cases e:i=k
  ·subst e;simp[hi]
  rw[Mt e,kS b];by_cases a:k<i
  ·rw[Mw a,Mw (by omega)]
  rw[Mt a,Mt (by omega)]
 rw[NI (by rw[PF,d8];omega),NI (by rw[d8];omega)]
def HO{c:aq}{i:Nat}(hi:i<c.Z9.length)(a:pc c i=0):mL c i=mL c (i+1):=by
 rw[<-Bd hi,a];apply Nv;intro k;rw[O0,d8];by_cases e:i=k
 ·subst e;rw[kS hi];simp[hi]
 rw[Mt e]
def za{a b:Nat}(c:a<4294967296)(d:b<4294967296):uI .or .u32 (a:Int) (b:Int)=((a||| b:Nat):Int):=by
 have e:a||| b<2^32:=Rp (by omega) (by omega);show IntKind.u32.wrap ((BitVec.ofInt 32 (a:Int)||| BitVec.ofInt 32 (b:Int)).toNat:Int)=_;rw[BitVec.toNat_or,ofInt_u32 a c,ofInt_u32 b d,Qa];omega
def sM{p:Nat}(b:p<32):IntKind.u32.wrap (1*2^min p 32)=((2^p:Nat):Int):=by
 have h:=jQ p b;have a: ∀q:Nat,q<4294967296->(q:Int)%4294967296=q:=fun q h=>by omega
 rw[show min p 32=p by omega,Qa,Int.one_mul,show ((2:Int)^p)=((2^p:Nat):Int) by rw[R7];rfl];exact a _ h
def ny{c:aq} : ∀ {i:Nat},i<=32->cz c i<4294967296
 |0,_=>by show 0<4294967296;decide
 | i+1,h=>by
   have a:=ny (c:=c) (i:=i) (by omega);have b:=jQ i (by omega);unfold cz;split
   ·split
    ·exact Rp (n:=32) a b
    exact a
   exact a
/-! What is beneath -/
def zN(m:Nat):List Nat:=(List.range 32).filter fun(b:Nat)=>m/2^b%2==1
def sN(m:Nat):sy m=(zN m).map fun(b:Nat)=>(b:Int):=rfl
def Fp(m b:Nat):(m/2^b%2==1)=m.testBit b:=by
 rw[Nat.testBit_eq_decide_div_mod_eq];rfl
def vJ{m b:Nat} :b∈zN m↔b<32/\m.testBit b=true:=by
 unfold zN;rw[ND,NX,Fp]
def EP(m:Nat):(zN m).Nodup:=Qn OR List.nodup_range
def P'(c:aq):Nat->Nat->Nat
 |0,_=>0
 |i+1,j=>if (pc c i).testBit j then P' c i j||| 2^i else P' c i j
def uL{c:aq} : ∀ {i:Nat}(j:Nat),i<=32->P' c i j<4294967296
 |0,_,_=>by show 0<4294967296;decide
 | i+1,j,h=>by
   have a:=uL (c:=c) (i:=i) j (by omega);have b:=jQ i (by omega);unfold P';split
   ·exact Rp (n:=32) a b
   exact a
def xp(c:aq)(i:Nat):List Nat:=(List.range c.Z9.length).map (P' c i)
def ly(c:aq)(i m:Nat):List Nat:=(List.range c.Z9.length).map fun(j:Nat)=>if j∈(zN (pc c i)).take m then P' c i j||| 2^i else P' c i j
def lx(c:aq)(i m:Nat):(ly c i m).length=c.Z9.length:=by simp[ly]
def EO(c:aq)(i:Nat):ly c i 0=xp c i:=by
 unfold ly xp;apply O9;intro j _;simp
def IC{c:aq}(h:c.Z9.length<=32)(i:Nat):ly c i (zN (pc c i)).length=xp c (i+1):=by
 unfold ly xp;apply O9;intro j b;have b:=NX.1 b;rw[NR];show _=if (pc c i).testBit j then P' c i j||| 2^i else P' c i j
 by_cases a:(pc c i).testBit j=true
 ·rw[Mw (vJ.2 ⟨by omega,a⟩),Mw a]
 rw[Mt (fun d=>a (vJ.1 d).2),Mt a]
def Jk{c:aq}{i m k:Nat}(h:(zN (pc c i))[m]? =some k)(l:k<c.Z9.length):(ly c i m)[k]? =some (P' c i k):=by
 unfold ly;rw[NB,O8 l];simp only[NT,Ms];rw[Mt];intro j;obtain⟨q,a⟩:=O6.1 j;rw[N8]at a;split at a
 ·rename_i b;obtain⟨d,e⟩:=Mr.1 h;obtain⟨f,g⟩:=Mr.1 a;exact(Nn.1 (EP (pc c i))) q m f d b (g.trans e.symm)
 cases a
def IB{c:aq}{i m k:Nat}(b:(zN (pc c i))[m]? =some k)(d:k<c.Z9.length):(ly c i m).set k (P' c i k||| 2^i)=ly c i (m+1):=by
 apply Nv;intro j;rw[O0,lx];by_cases a:j<c.Z9.length
 ·unfold ly;rw[NB,O8 a,NB,O8 a,N1,b];simp only[NT,Qo,NY,NO];by_cases e:k=j
  ·subst e;simp[d]
  rw[Mt e];simp[Ot e]
 rw[NI (by rw[lx];omega),NI (by rw[lx];omega)];by_cases e:k=j
 ·omega
 rw[Mt e]
def IA(c:aq):(xp c 0).map jI=List.replicate c.Z9.length [.lit (.int .u32 0)]:=by
 rw[<-wt];unfold xp mL
 congr 1
def EQ{c:aq}(h:Right c){i m k:Nat}(a:(zN (pc c i))[m]? =some k):k<i:=by
 have:=(vJ.1 (Mv a)).2;rw[su h,NF]at this;have:=kC h 40 _ _ this;omega
def uU{c:aq}(h:Right c):(gu c (-1)).length<=c.Z9.length:=by
 have:=(kA h 40 (-1) (by omega) (by have:=h.Z6;omega)).length_le_of_subset (l₂:=List.range c.Z9.length) fun m a=>NX.2 ((gU h m).1 a);simpa using this
def zZ(c:aq):List Nat:=m5 (gu c (-1)) 0 (List.replicate c.Z9.length 0)
def aQ(c:aq):AV:= .ref 7 [[.seq 1 (c.Z9.map fun s=>[I s.parent]), .seq 1 (c.Z9.map fun s=>[I s.kind]), .seq 1 ((mL c c.Z9.length).map jI), .seq 1 ((xp c c.Z9.length).map jI), .seq 1 ((zZ c).map aB), .seq 1 ((gu c (-1)).map aB), .lit (.int .u32 (cz c c.Z9.length))]] 0 0
def UT:=@aQ.eq_1
def Ib(env:b8)(Z a8:Addr)(he:fU env Z a8)(hT: ∀W,env.inv W->wg W)(c:aq)(z:Right c)(hch:rV Z a8 c= .lit .nilIface)(hcf:jN c):b7 prog env 46 [.agg (aA c)] (.tuple [aQ c, .lit .nilIface]):=by
 have O:=z.Z6;have f0:=D2 env Z a8 he c hcf;rw[hch]at f0;refine y7 func46 rfl call46 (by rw[ntmps46];simp) ?_;rw[ntmps46,results46];have F:=aA.eq_1;refine cF ?_;repeat refine fc f0 ?_
 refine cF ?_;repeat refine fc f0 ?_
 refine cF ?_;repeat refine fc f0 ?_
 have m0: ¬(c.Z9.length:Int)<0:=by omega
 have m1: ¬(16777216:Int)< (c.Z9.length:Int):=by omega
 have m2: ¬(281474976710656:Int)<4*(c.Z9.length:Int):=by omega
 have m3: ¬(281474976710656:Int)<8*(c.Z9.length:Int):=by omega
 have F:=g9 Uv m0 m1 m2 m3;refine cF ?_;repeat refine fc f0 ?_
 refine cF ?_;repeat refine fc f0 ?_
 refine nC 28 9000 0 0 3 1 ?_;refine nC 28 9001 0 1 3 1 ?_
 refine aH (D:=Nat) (fun i d=>[(1, .loc 1 (d 1) 0 0),(6, .loc 6 (d 6) 0 0),(30,qa c.Z9),(31,I c.Z9.length),(32,I i)])
  (fun i d=>[(1,⟨5,[aA c],26,false⟩),(6,⟨1,[[.loc 28 (d 28) 0 0]],115,false⟩),(28,⟨7,[[.row 9000 (d 9000), .row 9001 (d 9001), .row 22 (d 22), .row 24 (d 24), .row 26 (d 26),cy, .lit (.int .u32 (cz c i))]],171,false⟩),
   (22,⟨1,(mL c i).map jI,169,true⟩),(24,⟨1,List.replicate c.Z9.length [.lit (.int .u32 0)],169,true⟩),(26,⟨1,List.replicate c.Z9.length [I 0],3,true⟩),
   (9000,⟨1,(c.Z9.take i).map fun s=>[I s.parent],3,true⟩),(9001,⟨1,(c.Z9.take i).map fun s=>[I s.kind],3,true⟩)])
  (fun i d e=>i<=c.Z9.length/\e 22=false/\e 24=false/\e 26=false/\e 28=false/\e 9000=false/\e 9001=false) (fun i=>c.Z9.length-i) 0 ?_ ?_ ?_ ?_
 ·refine⟨NG _,?_,?_,?_,?_,?_,?_⟩<;>simp only[go_sem]
 ·exact qe
 ·have F:=ai Uv cz.eq_1
  (simp only[go_sem,F])
  rw[wt]
 rintro i y esc ⟨hi,h,l,n,o,q,r⟩;by_cases g:i<c.Z9.length
 ·obtain⟨s,x,_⟩:=aS g;have u:=it g;have C:=aD g (by omega);have f1:=iC env c i (by omega);have hpar:=z.par i s x;have Y:cU (i+1) 8:=⟨by omega,by omega⟩;have A:(c.Z9.take i).length=i:=by rw[NJ];omega
  have Q:c.Z9.take (i+1)=c.Z9.take i++[s]:=by rw[N1,x];rfl
  have w:=kS (c:=c) (i:=i) g;rw[Mt (Nat.lt_irrefl i)]at w
  have hl:cz c (i+1)=if Dj c i s then cz c i||| 2^i else cz c i:=by
   show (match c.Z9[i]? with|some s=>if Dj c i s then cz c i||| 2^i else cz c i|none=>cz c i)=_;rw[x]
  have V:=za (a:=cz c i) (b:=2^i) (ny (by omega)) (jQ i (by omega));have X:=sM (p:=i) (by omega);by_cases B:0<=s.parent
  ·obtain⟨p,B⟩: ∃p:Nat,s.parent=p:=⟨s.parent.toNat,by omega⟩;have G:=kS (c:=c) (i:=i) (j:=p) (by omega);rw[Mw (by omega)]at G;have T:((p:Nat):Int)< (c.Z9.length:Int):=by omega
   have U:=sM (p:=p) (by omega)
   have hnx:pc c i=pc c p||| 2^p:=by
    have:=ww z (aV.2 g);rw[eH x,B]at this;rw[this,Mw (by omega),OS]
   have M:=za (a:=pc c p) (b:=2^p) (nJ z (by omega)) (jQ p (by omega));rw[<-hnx]at M;have H:=Bd (c:=c) g;cases t:(s.kind != 4)<;>cases S:(s.kind != 5)<;>cases R:(((av c i true).length:Int)==0);all_goals have F:=ed Uv Uw u C V X x B Y A w<|ed @d8 UW t S R h l n o q r<|hU T U M G
   all_goals (repeat refine fc f1 ?_)
   all_goals (refine⟨i+1,⟨g,?_,?_,?_,?_,?_,?_⟩,?_,?_,by omega⟩)
   all_goals (first|(show _=false;simp only[go_sem,h,l,n,o,q,r];done)|skip)
   all_goals have F:=ed Uv Uw u C V X x B Y A w<|ed @d8 UW t S R h l n o q r<|qr T U M G hl Dj.eq_1 Q @NA.{0,0} @QC.{0,0}
   all_goals ((simp only[go_sem, <-H,F]))
  have B:s.parent= -1:=by omega
  have hm0:pc c i=0:=by
   have:=ww z (aV.2 g);rw[eH x,B]at this;rw[this,Mt (by omega)]
  have H:=HO g hm0;cases t:(s.kind != 4)<;>cases S:(s.kind != 5)<;>cases R:(((av c i true).length:Int)==0);all_goals have F:=ed Uv Uw u C V X x B Y A w<|ql @d8 UW t S R h l n o q r
  all_goals (repeat refine fc f1 ?_)
  all_goals (refine⟨i+1,⟨g,?_,?_,?_,?_,?_,?_⟩,?_,?_,by omega⟩)
  all_goals (first|(show _=false;simp only[go_sem,h,l,n,o,q,r];done)|skip)
  all_goals have F:=ed Uv Uw u C V X x B Y A w<|ed @d8 UW t S R h l n o q r<|g9 hl Dj.eq_1 Q @NA.{0,0} H
  all_goals ((simp only[go_sem,F]))
 obtain rfl:i=c.Z9.length:=by omega
 have u:=nl c.Z9.length;have P:c.Z9.take c.Z9.length=c.Z9:=NR;have F:=qr Uv u h l n o q r P;repeat refine fc f0 ?_
 refine vM ?_;refine cF ?_;repeat refine fc f0 ?_
 refine nY ?_
 refine IF (D:=Nat) (fun i d=>[(1, .loc 1 (d 1) 0 0),(6, .loc 6 (d 6) 0 0),(108, .row 22 (d 22)),(109,I c.Z9.length),(110,I i)])
  (fun i d=>[(1,⟨5,[aA c],26,false⟩),(6,⟨1,[[.loc 28 (d 28) 0 0]],115,false⟩),(28,⟨7,[[.row 9000 (d 9000), .row 9001 (d 9001), .row 22 (d 22), .row 24 (d 24), .row 26 (d 26),cy, .lit (.int .u32 (cz c c.Z9.length))]],171,false⟩),
   (22,⟨1,(mL c c.Z9.length).map jI,169,true⟩),(24,⟨1,(xp c i).map jI,169,true⟩),(26,⟨1,List.replicate c.Z9.length [I 0],3,true⟩),
   (9000,⟨1,c.Z9.map fun s=>[I s.parent],3,true⟩),(9001,⟨1,c.Z9.map fun s=>[I s.kind],3,true⟩)])
  (fun i d e=>i<=c.Z9.length/\e 22=false/\e 24=false/\e 26=false/\e 28=false/\e 9000=false/\e 9001=false) (fun i=>c.Z9.length-i) 0 ?_ ?_ ?_ ?_
 ·refine⟨NG _,?_,?_,?_,?_,?_,?_⟩<;>simp only[go_sem,h,l,n,o,q,r]
 ·have F:=@d8;exact qe
 ·have F:=ai Uv P
  (simp only[go_sem,F])
  rw[IA]
 try clear h l n o q r
 rintro i y esc ⟨hi,h,l,n,o,q,r⟩;by_cases g:i<c.Z9.length
 ·have u:=it g;have C:=aD g (by omega);have hm:=kS (c:=c) (i:=c.Z9.length) g;rw[Mw g]at hm;have F:=ed Uv u C hm @d8 UW h l n o q r;refine cF ?_;repeat refine fc f0 ?_
  refine cF ?_;repeat refine fc f0 ?_
  refine vM ?_;refine nY ?_;refine cF ?_;repeat refine fc f0 ?_
  refine cF ?_;repeat refine fc f0 ?_
  refine nY ?_
  refine EU (D:=Unit) (f:=83) (first:= #[.int .u32 (pc c i)]) (ks:=(sy (pc c i)).map (Value.int .i64))
   (fun m _ d=>[(1,⟨5,[aA c],26,false⟩),(6,⟨1,[[.loc 28 (d 28) 0 0]],115,false⟩),(9,⟨1,[[I i]],3,false⟩),(28,⟨7,[[.row 9000 (d 9000), .row 9001 (d 9001), .row 22 (d 22), .row 24 (d 24), .row 26 (d 26),cy, .lit (.int .u32 (cz c c.Z9.length))]],171,false⟩),
    (22,⟨1,(mL c c.Z9.length).map jI,169,true⟩),(24,⟨1,(ly c i m).map jI,169,true⟩),(26,⟨1,List.replicate c.Z9.length [I 0],3,true⟩),
    (9000,⟨1,c.Z9.map fun s=>[I s.parent],3,true⟩),(9001,⟨1,c.Z9.map fun s=>[I s.kind],3,true⟩)])
   (fun m _ d e=>(d 1=y 1/\d 6=y 6/\d 22=y 22/\d 9=y 9+1)/\e 22=false/\e 24=false/\e 26=false/\e 28=false/\e 9000=false/\e 9001=false) ()
   (by simp only[go_sem,hm,jI]) (by decide) ((ED (pc c i) (nJ z (by omega))).mono hT) ?_ ?_ ?_ ?_
  ·refine⟨⟨?_,?_,?_,?_⟩,?_,?_,?_,?_,?_,?_⟩<;>simp only[go_sem,h,l,n,o,q,r]
  ·(simp only[go_sem,F])
   rw[EO]
  ·rintro m _ v d e -⟨⟨J,K,L,t⟩,h,l,n,o,q,r⟩ hk
   obtain⟨k,E,rfl⟩: ∃k,(zN (pc c i))[m]? =some k/\v= .int .i64 (k:Nat):=by
    rw[sN,P5,NB]at hk;obtain⟨k,h1,h2⟩:=OI.1 hk;exact⟨k,h1,h2.symm⟩
   have hki:=EQ z E;have T:((k:Nat):Int)< (c.Z9.length:Int):=by omega
   have hb:=Jk E (by omega);have x:=IB E (by omega);have U:=sM (p:=i) (by omega);have M:=za (a:=P' c i k) (b:=2^i) (uL k (by omega)) (jQ i (by omega));have F:=ed Uv J K L t T U M hb @lx UW<|i' h l n o q r;repeat refine st ?_
   refine⟨(),⟨⟨?_,?_,?_,?_⟩,?_,?_,?_,?_,?_,?_⟩,?_⟩;all_goals (first|(simp only[go_sem,J,K,L,t,h,l,n,o,q,r];done)|skip)
   have F:=mc Uv J K L t @QC.{0,0} UW
   (simp only[go_sem, <-x,F])
  rintro _ d e -⟨⟨J,K,L,t⟩,h,l,n,o,q,r⟩;have hks:(sy (pc c i)).length=(zN (pc c i)).length:=by rw[sN,NQ]
  have N:=IC (c:=c) O i;refine zQ ?_;have F:=mc Uv J K L t u C;repeat refine st ?_
  refine⟨i+1,⟨g,?_,?_,?_,?_,?_,?_⟩,?_,?_,by omega⟩;all_goals (first|(show _=false;simp only[go_sem,h,l,n,o,q,r];done)|skip)
  ·have F:=g9 Uv J K L t;exact qe
  have F:=mc Uv J K L t hks N;exact qe
 obtain rfl:i=c.Z9.length:=by omega
 have u:=nl c.Z9.length;have F:=n4 Uv u h l n o q r;refine cF ?_;repeat refine st ?_
 refine cF ?_;repeat refine st ?_
 refine zQ ?_;refine nC 28 9002 0 5 3 1 ?_;refine bk [(9000,⟨1,c.Z9.map fun s=>[I s.parent],3,true⟩),(9001,⟨1,c.Z9.map fun s=>[I s.kind],3,true⟩),(22,⟨1,(mL c c.Z9.length).map jI,169,true⟩),(24,⟨1,(xp c c.Z9.length).map jI,169,true⟩)] ?_ ?_
 ·exact qe
 refine lU [(1, .loc 1 (y 1) 0 0),(6, .loc 6 (y 6) 0 0)] [(1,⟨5,[aA c],26,false⟩),(6,⟨1,[[.loc 28 (y 28) 0 0]],115,false⟩),(28,⟨7,[[.seq 1 (c.Z9.map fun s=>[I s.parent]), .seq 1 (c.Z9.map fun s=>[I s.kind]), .seq 1 ((mL c c.Z9.length).map jI), .seq 1 ((xp c c.Z9.length).map jI), .row 26 (y 26), .row 9002 (y 9002+1), .lit (.int .u32 (cz c c.Z9.length))]],171,false⟩),
  (26,⟨1,List.replicate c.Z9.length [I 0],3,true⟩),(9002,⟨1,[],3,true⟩)] ?_ ?_ ?_
 ·exact T7
 ·have F:=aA.eq_1;exact qe
 have hwl:=uU z
 have f1:zq prog env 84 c (c.Z9.map fun s=>[I s.parent]) (c.Z9.map fun s=>[I s.kind]) ((mL c c.Z9.length).map jI) ((xp c c.Z9.length).map jI) (.int .u32 (cz c c.Z9.length)) (-1) [] (List.replicate c.Z9.length 0):=
  BD env c z _ _ _ _ _ 40 (-1) [] (List.replicate c.Z9.length 0) (by omega) (by omega) (by simp) (by simp;omega)
 unfold zq at f1;have F:=lE Uv U0 Ux @List.map_replicate.{0,0} h l n o q r;repeat refine st ?_
 refine iL [(1000,28),(1001,26),(1002,9002)] f1 ?_;repeat refine st ?_
 refine bk [(26,⟨1,(zZ c).map aB,3,true⟩),(9002,⟨1,(gu c (-1)).map aB,3,true⟩)] ?_ ?_
 ·have F:=zZ.eq_1;exact qe
 refine lU [(2, .loc 28 (y 28) 0 0),(3, .lit .nilIface)] [(28,⟨7,[[.seq 1 (c.Z9.map fun s=>[I s.parent]), .seq 1 (c.Z9.map fun s=>[I s.kind]), .seq 1 ((mL c c.Z9.length).map jI), .seq 1 ((xp c c.Z9.length).map jI), .seq 1 ((zZ c).map aB), .seq 1 ((gu c (-1)).map aB), .lit (.int .u32 (cz c c.Z9.length))]],171,false⟩)] ?_ ?_ ?_
 ·exact T7
 ·have F:=aA.eq_1;exact qe
 (refine aM ?_;refine⟨_,(by show (aj _ _ _).run _=some _;simp only[go_sem];rfl),?_⟩)
 exact gA.refl _
end
end Go.Proofs.YtfhkmjbjafeckaaGreatDoor
