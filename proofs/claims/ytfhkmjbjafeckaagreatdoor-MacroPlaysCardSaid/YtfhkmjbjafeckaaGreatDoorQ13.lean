/- tree.New, of a right chart. -/
import Derived.Test.YtfhkmjbjafeckaaGreatDoorQ12
import Derived.Test.YtfhkmjbjafeckaaGreatDoorQ11
set_option maxRecDepth 100000
set_option maxHeartbeats 8000000
set_option linter.unusedSimpArgs false
set_option linter.defProp false
namespace Go.Proofs.YtfhkmjbjafeckaaGreatDoor
open Go.Proofs.Tryz
section
open Go.RowKit
def rZ(a b:Addr)(c:aq):AV:=if (n9 c).1=0 then ik else if (n9 c).1=8 then c0 (n9 c).2 (bt b) else c0 (n9 c).2 (bt a)
def xy{a b:Addr}{c:aq}{p:Int}(h:n9 c=(0,p)):rZ a b c=ik:=by unfold rZ;rw[h];rfl
def nh{b a:Addr}{c:aq}{p:Int}(h:n9 c=(8,p)):rZ b a c=c0 p (bt a):=by unfold rZ;rw[h];rfl
def cu{a b:Addr}{c:aq}{p:Int}(h:n9 c=(1,p)):rZ a b c=c0 p (bt a):=by unfold rZ;rw[h];rfl
def ly{c:aq}{i:Nat}{v:No}(h:c.vars[i]? =some v):jl c i=qU c i v:=by unfold jl;rw[h]
def pK{c:aq}{i:Nat}{s:n4}(h:c.Z9[i]? =some s):lz c i=cL c i s:=by unfold lz;rw[h]
def pJ{c:aq}{i:Nat}{t:tS}(h:c.trans[i]? =some t):r6 c i=d9 c t:=by unfold r6;rw[h]
def gw{p:Nat->Bool}{i:Nat}(h: ∀j,j<i->p j=true)(hi:p i=true): ∀j,j<i+1->p j=true:=fun j a=>by
 by_cases e:j=i
 ·rw[e];exact hi
 exact h j (by omega)
def HD(env:cf)(z r:Addr)(J:gb env z r)(c:aq)(hc:jL c)
 (hV:c.vars.length<=8-> ∀(i:Nat)(v:No),c.vars[i]? =some v->b8 prog env 143 [.agg (aA c),I i] (B (qU c i v)))
 (hS:c.Z9.length<=32-> ∀(i:Nat)(s:n4),c.Z9[i]? =some s->b8 prog env 144 [.agg (aA c),I i] (B (cL c i s)))
 (hT: ∀t,t∈c.trans->b8 prog env 147 [.agg (aA c), .agg (ax t)] (B (d9 c t))):b8 prog env 81 [.agg (aA c)] (rZ z r c):=by
 have T:=gg J.e8;have k:=eB env c.name (by have:=hc.1;unfold maxLen at this;omega);have d:=ot env z r J (-1) (by omega);have o:=yw env c c.initial;have z1:=fJ c.Z9;refine qf func81 call81 ntmps81 results81 ?_;by_cases l1:32<c.Z9.length
 ·have y:(32:Int)< (c.Z9.length:Int):=by omega
  rw[nh (show n9 c=(8, -1) by unfold n9;rw[Mw (.inl l1)])];have F:=gs Us y T;repeat (first|refine st ?_|refine cC (b9 env _ r) ?_)
  exact aR
 have y: ¬(32:Int)< (c.Z9.length:Int):=by omega
 by_cases l2:64<c.trans.length
 ·have C:(64:Int)< (c.trans.length:Int):=by omega
  rw[nh (show n9 c=(8, -1) by unfold n9;rw[Mw (.inr (.inl l2))])];have F:=i0 Us y C T;repeat (first|refine st ?_|refine cC (b9 env _ r) ?_)
  exact aR
 have C: ¬(64:Int)< (c.trans.length:Int):=by omega
 by_cases l3:8<c.vars.length
 ·have L:(8:Int)< (c.vars.length:Int):=by omega
  rw[nh (show n9 c=(8, -1) by unfold n9;rw[Mw (.inr (.inr l3))])];have F:=ii Us y C L T;repeat (first|refine st ?_|refine cC (b9 env _ r) ?_)
  exact aR
 have L: ¬(8:Int)< (c.vars.length:Int):=by omega
 have U: ¬(32<c.Z9.length\/64<c.trans.length\/8<c.vars.length):=by omega
 cases G:bp c.name
 ·rw[cu (show n9 c=(1, -1) by unfold n9;rw[Mv U,Mw (.inr G)])];have F:=ii Us y C L G;exact ns k d
 cases N:(c.Z9 == [])
 case true=>
  rw[cu (show n9 c=(1, -1) by unfold n9;rw[Mv U,Mw (.inl (by simpa using N))])];have F:=m7 Us y C L G z1 N;exact ns k d
 have V: ¬(c.Z9=[]\/bp c.name=false):=by
  rw[G];simpa using N
 have g:n9 c=(match bE (jl c) c.vars.length with
  |some i=>(1,2000+(i:Int))
  | none=>match bE (lz c) c.Z9.length with
    |some i=>(1,(i:Int))
    | none=>if nD c=false then(1, -1) else match bE (r6 c) c.trans.length with
      |some i=>(1,1000+(i:Int))
      |none=>(0, -1)):=by
  unfold n9;rw[Mv U,Mv V];rfl
 have F:=m7 Us y C L G z1 N;repeat refine y3 k d ?_
 refine lp (D:=Nat) (fun i M=>[(1, .loc 1 (M 1) 0 0),(38,I c.vars.length),(39,I i)]) (fun _ _=>[(1,⟨5,[aA c],26,false⟩)]) (fun i _ _=>i<=c.vars.length/\ ∀j,j<i->jl c j=true) (fun i=>c.vars.length-i) 0 ⟨NJ _,fun j K=>by omega⟩ ?_;rintro i E n ⟨P,a⟩;by_cases b:i<c.vars.length
 ·obtain⟨v,Z,_⟩:=aS b;have h:=ip b;have x:=aD b (by omega);have f:=hV (by omega) i v Z;cases e:qU c i v
  ·have q3:IntKind.i64.wrap (2000+(i:Int))=2000+(i:Int):=aX (by omega) (by omega);have H:=ot env z r J (2000+(i:Int)) (by omega);rw[cu (show n9 c=(1,2000+(i:Int)) by rw[g,dN b a (by rw[ly Z];exact e)])];have F:=ii Us h x q3 e;exact ns f H
  have F:=i0 Us h x e;repeat refine ff f ?_
  exact qn (i+1) ⟨b,gw a (by rw[ly Z];exact e)⟩
 have h: ¬(i:Int)< (c.vars.length:Int):=by omega
 have hvn:bE (jl c) c.vars.length=none:=bT fun j K=>a j (by omega);rw[hvn]at g;have F:=ai Us h;repeat refine st ?_
 refine lp (D:=Nat) (fun i M=>[(1, .loc 1 (M 1) 0 0),(52,I c.Z9.length),(53,I i)]) (fun _ _=>[(1,⟨5,[aA c],26,false⟩)]) (fun i _ _=>i<=c.Z9.length/\ ∀j,j<i->lz c j=true) (fun i=>c.Z9.length-i) 0 ⟨NJ _,fun j K=>by omega⟩ ?_;try clear E n P a h b i
 rintro i E n ⟨P,a⟩;by_cases b:i<c.Z9.length
 ·obtain⟨s,W,_⟩:=aS b;have h:=ip b;have x:=aD b (by omega);have f:=hS (by omega) i s W;cases e:cL c i s
  ·have H:=ot env z r J (i:Int) (by omega);rw[cu (show n9 c=(1,(i:Int)) by rw[g,dN b a (by rw[pK W];exact e)])];have F:=i0 Us h x e;exact ns f H
  have F:=i0 Us h x e;repeat refine ff f ?_
  exact qn (i+1) ⟨b,gw a (by rw[pK W];exact e)⟩
 have h: ¬(i:Int)< (c.Z9.length:Int):=by omega
 have X:bE (lz c) c.Z9.length=none:=bT fun j K=>a j (by omega);rw[X]at g;by_cases R:0<=c.initial
 case neg=>
  have w:nD c=false:=by unfold nD at_;rw[Mv R]
  rw[cu (show n9 c=(1, -1) by rw[g,Mw w])];have F:=gs Us h R;exact ns o d
 obtain⟨m,u⟩:=fg R;by_cases S:(m:Int)< (c.Z9.length:Int)
 case neg=>
  have w:nD c=false:=by unfold nD;rw[u,bK,NL (by omega)]
  have p2':(c.initial< (c.Z9.length:Int))=False:=by rw[u];simpa using S
  rw[cu (show n9 c=(1, -1) by rw[g,Mw w])];have F:=i0 Us h R p2';exact ns o d
 obtain⟨q,Q,_⟩:=aS (show m<c.Z9.length by omega);have l:=iz env q;have p:nD c=((q.parent == -1)&&eQ q):=by unfold nD;rw[u,bK,Q]
 rw[u]at o;cases A:(q.parent == -1)
 ·rw[cu (show n9 c=(1, -1) by rw[g,Mw (by rw[p,A];rfl)])];have F:=qr Us Ut h u S Q A jM;exact D0 o d l
 cases O:eQ q
 ·rw[cu (show n9 c=(1, -1) by rw[g,Mw (by rw[p,A,O];rfl)])];have F:=qs Us Ut h u S Q A O jM;exact D0 o d l
 rw[Mv (by rw[p,A,O];simp)]at g;have F:=qs Us Ut h u S Q A O jM;repeat refine Sw o d l ?_
 have F:=ai Us u;refine lq c.trans.length (by omega) (fun i M=>[(1, .loc 1 (M 1) 0 0),(90,tg c.trans),(91,I c.trans.length),(92,I i)]) (fun _ _=>[(1,⟨5,[aA c],26,false⟩)]) (fun i _ _=> ∀j,j<i->r6 c j=true) (fun j K=>by omega) ?_ ?_
 ·try clear E n P a h b i
  rintro i E n b h x a;obtain⟨t,w,Y⟩:=aS b;have f:=hT t Y;cases e:d9 c t
  ·have q3:IntKind.i64.wrap (1000+(i:Int))=1000+(i:Int):=aX (by omega) (by omega);have H:=ot env z r J (1000+(i:Int)) (by omega);rw[cu (show n9 c=(1,1000+(i:Int)) by rw[g,dN b a (by rw[pJ w];exact e)])];have F:=m7 Us Uv h x q3 w e;exact ns f H
  have F:=kv Us Uv h x w e;repeat refine ff f ?_
  exact qn (i+1) ⟨b,gw a (by rw[pJ w];exact e)⟩
 try clear E n P a h b i
 rintro E n h a;rw[xy (show n9 c=(0, -1) by rw[g,bT fun j K=>a j (by omega)])];have F:=ai Us h;exact fc
def wI{n:Nat}(h:n<=maxLen):n<=9223372036854775807:=by unfold maxLen at h;omega
def jp{l:List la}(h:l.length<=maxLen/\ ∀y∈l,iU y):l.length<=9223372036854775807/\ ∀a∈l,a.name.length<=9223372036854775807:=⟨wI h.1,fun a b=>wI (h.2 a b).1⟩
def D3(env:cf)(d e:Addr)(g:gb env d e)(c:aq)(j:c.Z9.length<=1000000)(i:Nat)(s:n4)(b:c.Z9[i]? =some s)(a:vr s):b8 prog env 144 [.agg (aA c),I i] (B (cL c i s)):=by
 have h:i<c.Z9.length:=(Mt.1 b).1;have k:=ip h;have f1:=eB env s.name (wI a.1);have f2:=HB env c s.name j;have f3:=Ak env c i s b;have f5:=pz env d e g c s.ZW (jp a.2.1).1 (jp a.2.1).2;have f6:=pz env d e g c s.out (jp a.2.2).1 (jp a.2.2).2;unfold cL;refine qf func144 call144 ntmps144 results144 ?_;cases f:dE c i s
 ·have F:=ii Us k b Ut f;exact D0 f1 f2 f3
 have f4:=D4 env c i s b j (Gp h f) (wI a.2.1.1) (wI a.2.2.1);have F:=ii Us k b Ut f;exact TL f1 f2 f3 f4 f5 f6
def qj{c:aq}{nm:List UInt8}{j:Nat}{x:No}(h:newVar c nm j=true)(a:c.vars[j]? =some x)(e:(x.name==nm)=false):newVar c nm (j+1)=true:=by
 unfold newVar at h |-;exact dr h a (by rw[e];rfl)
def Iz(env:cf)(c:aq)(w:c.vars.length<=1000000)(i:Nat)(v:No)(h:c.vars[i]? =some v)(n:pa v):b8 prog env 143 [.agg (aA c),I i] (B (qU c i v)):=by
 have o:i<c.vars.length:=(Mt.1 h).1;have r:=ip o;have s:(i:Int)<=(c.vars.length:Int):=by omega
 have f1:=eB env v.name (wI n);have f2:=dG env v.start;have a:(c.vars.take i).length=i:=by rw[NK];omega
 refine qf func143 call143 ntmps143 results143 ?_;have F:=m7 Us r s h UO a P9;repeat refine st ?_
 refine lp (D:=Nat) (fun j t=>[(5, .loc 5 (t 5) 0 0),(16,qa (c.vars.take i)),(17,I i),(18,I j)]) (fun _ _=>[(5,⟨2,[ga v],140,false⟩)]) (fun j _ _=>j<=i/\newVar c v.name j=true) (fun j=>i-j) 0 ⟨NJ _,rfl⟩ ?_;rintro j y m ⟨u,d⟩;by_cases b:j<i
 ·obtain⟨x,k,_⟩:=aS (show j<c.vars.length by omega);have f:(c.vars.take i)[j]? =some x:=by rw[Na,Mw b];exact k
  have g:=ip b;have l:=aD b (by omega);cases e:(x.name==v.name)
  ·have F:=kv g l f a UO e;repeat refine st ?_
   exact qn (j+1) ⟨b,qj d k e⟩
  rw[show qU c i v=false by unfold qU newVar;rw[my (p:=fun x:No=> !(x.name==v.name)) f (by rw[e];rfl)];rfl];have F:=kv g l f a UO e;exact fc
 have g: ¬(j:Int)< (i:Int):=by omega
 obtain rfl:j=i:=by omega
 have q:qU c j v=(bp v.name&& !(v.name == [100,97,116,97])&& !(v.name == [105,110])&&aJ v.start):=by
  unfold qU aJ;rw[d];simp only[Np,Rl]
 rw[q];have F:=gs g UO jM;exact ns f1 f2
def Gy(env:cf)(d e:Addr)(i:gb env d e)(c:aq)(t:tS)(f:vp t):b8 prog env 147 [.agg (aA c), .agg (ax t)] (B (d9 c t)):=by
 have f1:=yw env c t.src;have f3:=eB env t.Z7 (wI f.1);have f4:=wu env d e i c t.guard;have f5:=pz env d e i c t.Z1 (jp f.2.2).1 (jp f.2.2).2;have f6:=yw env c t.target;have l:=fJ t.guard;by_cases b:0<=t.src
 case neg=>
  rw[show d9 c t=false by unfold d9 az at_;rw[Mv b];rfl];refine qf func147 call147 ntmps147 results147 ?_;have F:=gs Us Uv b;exact kb f1
 obtain⟨m,a⟩:=fg b;by_cases h:(m:Int)< (c.Z9.length:Int)
 case neg=>
  rw[show d9 c t=false by unfold d9 az;rw[a,bK,NL (by omega)];rfl];have g:(t.src< (c.Z9.length:Int))=False:=by rw[a];simpa using h
  refine qf func147 call147 ntmps147 results147 ?_;have F:=i0 Us Uv b g;exact kb f1
 obtain⟨q,j,_⟩:=aS (show m<c.Z9.length by omega);have f2:=iz env q;have k:d9 c t=(eQ q&&((t.Z7 == [])||bp t.Z7)&&((t.guard == [])||bo t.guard c.vars.length c.Z9.length)&&eR c.vars.length c.Z9.length t.Z1&&((t.target == -1)||(decide (0<=t.target)&&decide (t.target<c.Z9.length)))):=by unfold d9;rw[a,kO j]
 rw[k];rw[a]at f1;refine qf func147 call147 ntmps147 results147 ?_;have F:=m7 Us Uv Ut a h j l;exact TL f1 f2 f3 f4 f5 f6
end
section
open Go.RowKit Go.ChangeShapes
def D6(env:cf)(a b:Addr)(e:gb env a b)(c:aq)(d:jL c):b8 prog env 81 [.agg (aA c)] (rZ a b c):=
 HD env a b e c d (fun h i v g=>Iz env c (by omega) i v g (d.2.1.2 v (My g))) (fun h i s f=>D3 env a b e c (by omega) i s f (d.2.2.1.2 s (My f))) (fun t j=>Gy env a b e c t (d.2.2.2.2 t j))
end
section
open Go.RowKit
def m8:List Nat->Nat->List Nat->List Nat
 |[],_,a=>a
 |k::l,n,a=>m8 l (n+1) (a.set k n)
def qc: ∀(l:List Nat)(n:Nat)(a:List Nat),(m8 l n a).length=a.length
 |[],_,_=>rfl
 |k::l,n,a=>by unfold m8;rw[qc,PG]
def qd: ∀(a b:List Nat)(n:Nat)(c:List Nat),m8 (a++b) n c=m8 b (n+a.length) (m8 a n c)
 |[],_,_,_=>rfl
 | k::a,b,n,c=>by
   show m8 (a++b) (n+1) (c.set k n)=m8 b (n+(a.length+1)) (m8 a (n+1) (c.set k n));rw[qd,QV,Ry 1]
def TR(ps ks c a:List (List AV))(b:Value)(g:Nat->Nat)(d l:List Nat):List (Nat×Row):=
 [(1000,⟨7,[[.seq 1 ps, .seq 1 ks, .seq 1 c, .seq 1 a, .row 1001 (g 1001), .row 1002 (g 1002), .lit b]],171,false⟩),(1001,⟨1,d.map aB,3,true⟩),(1002,⟨1,l.map aB,3,true⟩)]
def UW:=@TR.eq_1
def DH(c:aq)(K:List Nat)(j:Nat):List Nat:=(K.take j).flatMap fun k=>k::g7 c k
def GE{c:aq}{K:List Nat}{j k:Nat}(h:K[j]? =some k):DH c K (j+1)=DH c K j++k::g7 c k:=by
 unfold DH;rw[N4,h,Oy];simp
def Ia{c:aq}(K:List Nat):DH c K K.length=K.flatMap fun k=>k::g7 c k:=by
 unfold DH;rw[NS]
def Kh{c:aq}(K:List Nat)(j:Nat):(DH c K j).length<=(K.flatMap fun k=>k::g7 c k).length:=by
 conv=>rhs;rw[<-PU j K,Oy,NA]
 exact Ru _ _
def AF(P:Program)(env:cf)(f:FuncId)(c:aq)(ps ks d a:List (List AV))(b:Value)(i:Int)(l e:List Nat):Prop:=
 i9 P env f [1000,1001,1002] (fun k=>k==1002) (fun g=>[.loc 1000 (g 1000) 0 0, .agg (aA c),I i]) (fun g=>TR ps ks d a b g e l) (fun g=>TR ps ks d a b g (m8 (g7 c i) l.length e) (l++g7 c i)) (fun _=> .lit (.tuple #[]))
def wM(env:cf)(c:aq)(z:Right c)(ps ks G y:List (List AV))(E:Value)(i:Int)(l g:List Nat)(hi: -1<=i)(v:g.length=c.Z9.length)(q:l.length+(g7 c i).length<=1000000)
 (R: ∀k∈av c i false,∀l g,g.length=c.Z9.length->l.length+(g7 c k).length<=1000000->AF prog env 84 c ps ks G y E k l g):AF prog env 84 c ps ks G y E i l g:=by
 unfold AF at*
 have s:=z.Z6;have f0:=pu env c i (by omega);rw[DQ z hi]at q |-;have H:(av c i false).length<=32:=NN (dR c i false _) s;generalize P:av c i false=K at*;refine qi func84 call84 ntmps84 results84 ?_;intro N O e;have m:=e 1000 (by simp);have n:=e 1001 (by simp);have o:=e 1002 (by simp);have F:=ii UW m n o Us;repeat refine ff f0 ?_
 refine aH (D:=Nat) (fun j a=>[(0, .loc 1000 (a 1000) 0 0),(4, .loc 4 (a 4) 0 0),(10, .row 10 (a 10)),(11,I K.length),(12,I j)]) (fun j a=>TR ps ks G y E a (m8 (DH c K j) l.length g) (l++DH c K j)++[(4,⟨5,[aA c],26,false⟩),(10,⟨1,K.map aB,3,true⟩)]) (fun j a d=>(j<=K.length/\a 1000=N 1000/\a 1001=N 1001)/\d 1000=false/\d 1001=false/\d 1002=false) (fun j=>K.length-j) 0 ?_ ?_ ?_ ?_
 ·exact⟨⟨NJ _,by simp only[go_sem],by simp only[go_sem]⟩,by simp only[go_sem,m],by simp only[go_sem,n],by simp only[go_sem,o]⟩
 ·exact qe
 ·have F:=ai UW Us
  (simp only[go_sem,F])
  refine⟨rfl,?_⟩;show _=(⟨1,List.map aB (l++[]),3,true⟩:Row);rw[OM]
 try clear m n o
 rintro j W d ⟨⟨V,L,M⟩,m,n,o⟩;by_cases h:j<K.length
 ·obtain⟨k,x⟩:=gE h;have A:k∈av c i false:=by rw[P];exact My x
  have U:=bF z A;have b:=GE (c:=c) x;have r:=Kh (c:=c) K (j+1);have w:=qc (DH c K j) l.length g;have t:=qd (DH c K j) (k::g7 c k) l.length g;rw[b]at r;rw[NA,NQ]at r;generalize m8 (DH c K j) l.length g=f at*;have f1:=R k (My x) (l++DH c K j++[k]) (f.set k (l++DH c K j).length) (by rw[PG,w,v]) (by simp only[NA,NQ,Pp];omega);have C:=ip h;have S:=aD h (by omega);have T:((k:Nat):Int)< (f.length:Int):=by rw[w,v];omega
  obtain⟨J,B⟩: ∃J,f[k]? =some J:=⟨f[k]'(by omega),Ms _⟩;have Q:dd (l.length+(DH c K j).length+1) 8:=⟨by omega,by omega⟩;have F:=ed UW m n o Us C S T x Q Uu<|gs @NC.{0,0} B @QC.{0,0};have u:m8 (DH c K (j+1)) l.length g=m8 (g7 c k) (l.length+(DH c K j).length+1) (f.set k (l.length+(DH c K j).length)):=by rw[b,t];rfl
  repeat refine st ?_
  refine iL [(1000,1000),(1001,1001),(1002,1002)] f1 ?_;repeat refine st ?_
  refine⟨j+1,⟨⟨h,?_,?_⟩,?_,?_,?_⟩,?_,?_,by omega⟩
  ·simp only[go_sem];exact L
  ·simp only[go_sem];exact M
  ·simp only[go_sem,m]
  ·simp only[go_sem,n]
  ·simp only[go_sem,o]
  ·exact qe
  have F:=qr UW Us Uu @NC.{0,0} @QC.{0,0} u b @Nj.{0}
  (simp only[go_sem,F])
  rw[t];rfl
 obtain rfl:j=K.length:=by omega
 have C:=nl K.length;have p:=Ia (c:=c) K;have F:=qs UW m n o Us C p L M;repeat refine st ?_
 exact rN
def BN(env:cf)(c:aq)(e:Right c)(ps ks h f:List (List AV))(g:Value): ∀(n:Nat)(i:Int)(l b:List Nat), -1<=i->(c.Z9.length:Int)<=i+n->b.length=c.Z9.length->l.length+(g7 c i).length<=1000000->AF prog env 84 c ps ks h f g i l b
 |0,i,l,b,j,q,d,a=>wM env c e ps ks h f g i l b j d a fun k m=>by have:=bF e m;omega
 |n+1,i,l,b,j,q,d,a=>wM env c e ps ks h f g i l b j d a fun k m l b o p=>by have:=bF e m;exact BN env c e ps ks h f g n k l b (by omega) (by omega) o p
def jF(m:Nat):List AV:=[.lit (.int .u32 m)]
def US:=@jF.eq_1
def mP(c:aq)(i:Nat):List Nat:=(List.range c.Z9.length).map fun j=>if j<i then pf c j else 0
def Dl(c:aq)(i:Nat)(s:n4):Bool:=s.kind != 4&&s.kind != 5&&(((av c i true).length:Int)==0)
def cz(c:aq):Nat->Nat
 |0=>0
 | i+1=>match c.Z9[i]? with
   |some s=>if Dl c i s then cz c i||| 2^i else cz c i
   |none=>cz c i
def wz(c:aq):(mP c 0).map jF=List.replicate c.Z9.length [.lit (.int .u32 0)]:=by
 unfold mP;rw[P4]
 have: ∀n:Nat,(List.range n).map (jF ∘ fun(j:Nat)=>if j<0 then pf c j else 0)=List.replicate n [.lit (.int .u32 0)]:=fun n=>by
  rw[List.eq_replicate_iff];refine⟨by simp,fun b a=> ?_⟩;obtain⟨j,_,rfl⟩:=NG.1 a;rfl
 exact this _
def kV{c:aq}{i j:Nat}(a:j<c.Z9.length):(mP c i)[j]? =some (if j<i then pf c j else 0):=by
 unfold mP;rw[NE,O5 a];rfl
def d7(c:aq)(i:Nat):(mP c i).length=c.Z9.length:=by simp[mP]
def Bj{c:aq}{i:Nat}(hi:i<c.Z9.length):(mP c i).set i (pf c i)=mP c (i+1):=by
 apply Nv;intro k;by_cases b:k<c.Z9.length
 ·rw[kV b,O0,d7];by_cases e:i=k
  ·subst e;simp[hi]
  rw[Mv e,kV b];by_cases a:k<i
  ·rw[Mw a,Mw (by omega)]
  rw[Mv a,Mv (by omega)]
 rw[NL (by rw[PG,d7];omega),NL (by rw[d7];omega)]
def HQ{c:aq}{i:Nat}(hi:i<c.Z9.length)(a:pf c i=0):mP c i=mP c (i+1):=by
 rw[<-Bj hi,a];apply Nv;intro k;rw[O0,d7];by_cases e:i=k
 ·subst e;rw[kV hi];simp[hi]
 rw[Mv e]
def zm{a b:Nat}(c:a<4294967296)(d:b<4294967296):uQ .or .u32 (a:Int) (b:Int)=((a||| b:Nat):Int):=by
 have e:a||| b<2^32:=Rq (by omega) (by omega);show IntKind.u32.wrap ((BitVec.ofInt 32 (a:Int)||| BitVec.ofInt 32 (b:Int)).toNat:Int)=_;rw[BitVec.toNat_or,ofInt_u32 a c,ofInt_u32 b d,Q9];omega
def sS{p:Nat}(b:p<32):IntKind.u32.wrap (1*2^min p 32)=((2^p:Nat):Int):=by
 have h:=jO p b;have a: ∀q:Nat,q<4294967296->(q:Int)%4294967296=q:=fun q h=>by omega
 rw[show min p 32=p by omega,Q9,Int.one_mul,show ((2:Int)^p)=((2^p:Nat):Int) by rw[R5];rfl];exact a _ h
def oI{c:aq} : ∀ {i:Nat},i<=32->cz c i<4294967296
 |0,_=>by show 0<4294967296;decide
 | i+1,h=>by
   have a:=oI (c:=c) (i:=i) (by omega);have b:=jO i (by omega);unfold cz;split
   ·split
    ·exact Rq (n:=32) a b
    exact a
   exact a
/-! What is beneath -/
def zX(m:Nat):List Nat:=(List.range 32).filter fun(b:Nat)=>m/2^b%2==1
def sU(m:Nat):sw m=(zX m).map fun(b:Nat)=>(b:Int):=rfl
def Ft(m b:Nat):(m/2^b%2==1)=m.testBit b:=by
 rw[Nat.testBit_eq_decide_div_mod_eq];rfl
def vS{m b:Nat} :b∈zX m↔b<32/\m.testBit b=true:=by
 unfold zX;rw[NF,NZ,Ft]
def ES(m:Nat):(zX m).Nodup:=Qn OT List.nodup_range
def Pc(c:aq):Nat->Nat->Nat
 |0,_=>0
 |i+1,j=>if (pf c i).testBit j then Pc c i j||| 2^i else Pc c i j
def uT{c:aq} : ∀ {i:Nat}(j:Nat),i<=32->Pc c i j<4294967296
 |0,_,_=>by show 0<4294967296;decide
 | i+1,j,h=>by
   have a:=uT (c:=c) (i:=i) j (by omega);have b:=jO i (by omega);unfold Pc;split
   ·exact Rq (n:=32) a b
   exact a
def yA(c:aq)(i:Nat):List Nat:=(List.range c.Z9.length).map (Pc c i)
def mC(c:aq)(i m:Nat):List Nat:=(List.range c.Z9.length).map fun(j:Nat)=>if j∈(zX (pf c i)).take m then Pc c i j||| 2^i else Pc c i j
def mB(c:aq)(i m:Nat):(mC c i m).length=c.Z9.length:=by simp[mC]
def ER(c:aq)(i:Nat):mC c i 0=yA c i:=by
 unfold mC yA;apply O6;intro j _;simp
def ID{c:aq}(h:c.Z9.length<=32)(i:Nat):mC c i (zX (pf c i)).length=yA c (i+1):=by
 unfold mC yA;apply O6;intro j b;have b:=NZ.1 b;rw[NS];show _=if (pf c i).testBit j then Pc c i j||| 2^i else Pc c i j
 by_cases a:(pf c i).testBit j=true
 ·rw[Mw (vS.2 ⟨by omega,a⟩),Mw a]
 rw[Mv (fun d=>a (vS.1 d).2),Mv a]
def Jr{c:aq}{i m k:Nat}(h:(zX (pf c i))[m]? =some k)(l:k<c.Z9.length):(mC c i m)[k]? =some (Pc c i k):=by
 unfold mC;rw[NE,O5 l];simp only[NU,Mu];rw[Mv];intro j;obtain⟨q,a⟩:=Ox.1 j;rw[Na]at a;split at a
 ·rename_i b;obtain⟨d,e⟩:=Mt.1 h;obtain⟨f,g⟩:=Mt.1 a;exact(Nk.1 (ES (pf c i))) q m f d b (g.trans e.symm)
 cases a
def IC{c:aq}{i m k:Nat}(b:(zX (pf c i))[m]? =some k)(d:k<c.Z9.length):(mC c i m).set k (Pc c i k||| 2^i)=mC c i (m+1):=by
 apply Nv;intro j;rw[O0,mB];by_cases a:j<c.Z9.length
 ·unfold mC;rw[NE,O5 a,NE,O5 a,N4,b];simp only[NU,Qo,N1,NP];by_cases e:k=j
  ·subst e;simp[d]
  rw[Mv e];simp[Oq e]
 rw[NL (by rw[mB];omega),NL (by rw[mB];omega)];by_cases e:k=j
 ·omega
 rw[Mv e]
def IB(c:aq):(yA c 0).map jF=List.replicate c.Z9.length [.lit (.int .u32 0)]:=by
 rw[<-wz];unfold yA mP
 congr 1
def ET{c:aq}(h:Right c){i m k:Nat}(a:(zX (pf c i))[m]? =some k):k<i:=by
 have:=(vS.1 (My a)).2;rw[tK h,NI]at this;have:=kF h 40 _ _ this;omega
def u5{c:aq}(h:Right c):(g7 c (-1)).length<=c.Z9.length:=by
 have:=(kC h 40 (-1) (by omega) (by have:=h.Z6;omega)).length_le_of_subset (l₂:=List.range c.Z9.length) fun m a=>NZ.2 ((gS h m).1 a);simpa using this
def zj(c:aq):List Nat:=m8 (g7 c (-1)) 0 (List.replicate c.Z9.length 0)
def aQ(c:aq):AV:= .ref 7 [[.seq 1 (c.Z9.map fun s=>[I s.parent]), .seq 1 (c.Z9.map fun s=>[I s.kind]), .seq 1 ((mP c c.Z9.length).map jF), .seq 1 ((yA c c.Z9.length).map jF), .seq 1 ((zj c).map aB), .seq 1 ((g7 c (-1)).map aB), .lit (.int .u32 (cz c c.Z9.length))]] 0 0
def UQ:=@aQ.eq_1
def Ii(env:cf)(Z a8:Addr)(he:gb env Z a8)(hT: ∀W,env.inv W->r5 W)(c:aq)(z:Right c)(hch:rZ Z a8 c= .lit .nilIface)(hcf:jL c):b8 prog env 46 [.agg (aA c)] (.tuple [aQ c, .lit .nilIface]):=by
 have O:=z.Z6;have f0:=D6 env Z a8 he c hcf;rw[hch]at f0;refine yf func46 rfl call46 (by rw[ntmps46];simp) ?_;rw[ntmps46,results46];have F:=aA.eq_1;refine cB ?_;repeat refine ff f0 ?_
 refine cB ?_;repeat refine ff f0 ?_
 refine cB ?_;repeat refine ff f0 ?_
 have m0: ¬(c.Z9.length:Int)<0:=by omega
 have m1: ¬(16777216:Int)< (c.Z9.length:Int):=by omega
 have m2: ¬(281474976710656:Int)<4*(c.Z9.length:Int):=by omega
 have m3: ¬(281474976710656:Int)<8*(c.Z9.length:Int):=by omega
 have F:=ii Us m0 m1 m2 m3;refine cB ?_;repeat refine ff f0 ?_
 refine cB ?_;repeat refine ff f0 ?_
 refine nC 28 9000 0 0 3 1 ?_;refine nC 28 9001 0 1 3 1 ?_
 refine aH (D:=Nat) (fun i d=>[(1, .loc 1 (d 1) 0 0),(6, .loc 6 (d 6) 0 0),(30,rv c.Z9),(31,I c.Z9.length),(32,I i)])
  (fun i d=>[(1,⟨5,[aA c],26,false⟩),(6,⟨1,[[.loc 28 (d 28) 0 0]],115,false⟩),(28,⟨7,[[.row 9000 (d 9000), .row 9001 (d 9001), .row 22 (d 22), .row 24 (d 24), .row 26 (d 26),b6, .lit (.int .u32 (cz c i))]],171,false⟩),
   (22,⟨1,(mP c i).map jF,169,true⟩),(24,⟨1,List.replicate c.Z9.length [.lit (.int .u32 0)],169,true⟩),(26,⟨1,List.replicate c.Z9.length [I 0],3,true⟩),
   (9000,⟨1,(c.Z9.take i).map fun s=>[I s.parent],3,true⟩),(9001,⟨1,(c.Z9.take i).map fun s=>[I s.kind],3,true⟩)])
  (fun i d e=>i<=c.Z9.length/\e 22=false/\e 24=false/\e 26=false/\e 28=false/\e 9000=false/\e 9001=false) (fun i=>c.Z9.length-i) 0 ?_ ?_ ?_ ?_
 ·refine⟨NJ _,?_,?_,?_,?_,?_,?_⟩<;>simp only[go_sem]
 ·exact qe
 ·have F:=ai Us cz.eq_1
  (simp only[go_sem,F])
  rw[wz]
 rintro i y esc ⟨hi,h,l,n,o,q,r⟩;by_cases g:i<c.Z9.length
 ·obtain⟨s,x,_⟩:=aS g;have u:=ip g;have C:=aD g (by omega);have f1:=iB env c i (by omega);have hpar:=z.par i s x;have Y:dd (i+1) 8:=⟨by omega,by omega⟩;have A:(c.Z9.take i).length=i:=by rw[NK];omega
  have Q:c.Z9.take (i+1)=c.Z9.take i++[s]:=by rw[N4,x];rfl
  have w:=kV (c:=c) (i:=i) g;rw[Mv (Nat.lt_irrefl i)]at w
  have hl:cz c (i+1)=if Dl c i s then cz c i||| 2^i else cz c i:=by
   show (match c.Z9[i]? with|some s=>if Dl c i s then cz c i||| 2^i else cz c i|none=>cz c i)=_;rw[x]
  have V:=zm (a:=cz c i) (b:=2^i) (oI (by omega)) (jO i (by omega));have X:=sS (p:=i) (by omega);by_cases B:0<=s.parent
  ·obtain⟨p,B⟩: ∃p:Nat,s.parent=p:=⟨s.parent.toNat,by omega⟩;have G:=kV (c:=c) (i:=i) (j:=p) (by omega);rw[Mw (by omega)]at G;have T:((p:Nat):Int)< (c.Z9.length:Int):=by omega
   have U:=sS (p:=p) (by omega)
   have hnx:pf c i=pf c p||| 2^p:=by
    have:=xC z (aW.2 g);rw[eH x,B]at this;rw[this,Mw (by omega),OP]
   have M:=zm (a:=pf c p) (b:=2^p) (nR z (by omega)) (jO p (by omega));rw[<-hnx]at M;have H:=Bj (c:=c) g;cases t:(s.kind != 4)<;>cases S:(s.kind != 5)<;>cases R:(((av c i true).length:Int)==0);all_goals have F:=ed Us Ut u C V X x B Y A w<|ed @d7 US t S R h l n o q r<|i0 T U M G
   all_goals (repeat refine ff f1 ?_)
   all_goals (refine⟨i+1,⟨g,?_,?_,?_,?_,?_,?_⟩,?_,?_,by omega⟩)
   all_goals (first|(show _=false;simp only[go_sem,h,l,n,o,q,r];done)|skip)
   all_goals have F:=ed Us Ut u C V X x B Y A w<|ed @d7 US t S R h l n o q r<|qs T U M G hl Dl.eq_1 Q @NC.{0,0} @QC.{0,0}
   all_goals ((simp only[go_sem, <-H,F]))
  have B:s.parent= -1:=by omega
  have hm0:pf c i=0:=by
   have:=xC z (aW.2 g);rw[eH x,B]at this;rw[this,Mv (by omega)]
  have H:=HQ g hm0;cases t:(s.kind != 4)<;>cases S:(s.kind != 5)<;>cases R:(((av c i true).length:Int)==0);all_goals have F:=ed Us Ut u C V X x B Y A w<|o' @d7 US t S R h l n o q r
  all_goals (repeat refine ff f1 ?_)
  all_goals (refine⟨i+1,⟨g,?_,?_,?_,?_,?_,?_⟩,?_,?_,by omega⟩)
  all_goals (first|(show _=false;simp only[go_sem,h,l,n,o,q,r];done)|skip)
  all_goals have F:=ed Us Ut u C V X x B Y A w<|ed @d7 US t S R h l n o q r<|ii hl Dl.eq_1 Q @NC.{0,0} H
  all_goals ((simp only[go_sem,F]))
 obtain rfl:i=c.Z9.length:=by omega
 have u:=nl c.Z9.length;have P:c.Z9.take c.Z9.length=c.Z9:=NS;have F:=qs Us u h l n o q r P;repeat refine ff f0 ?_
 refine vV ?_;refine cB ?_;repeat refine ff f0 ?_
 refine nj ?_
 refine IG (D:=Nat) (fun i d=>[(1, .loc 1 (d 1) 0 0),(6, .loc 6 (d 6) 0 0),(108, .row 22 (d 22)),(109,I c.Z9.length),(110,I i)])
  (fun i d=>[(1,⟨5,[aA c],26,false⟩),(6,⟨1,[[.loc 28 (d 28) 0 0]],115,false⟩),(28,⟨7,[[.row 9000 (d 9000), .row 9001 (d 9001), .row 22 (d 22), .row 24 (d 24), .row 26 (d 26),b6, .lit (.int .u32 (cz c c.Z9.length))]],171,false⟩),
   (22,⟨1,(mP c c.Z9.length).map jF,169,true⟩),(24,⟨1,(yA c i).map jF,169,true⟩),(26,⟨1,List.replicate c.Z9.length [I 0],3,true⟩),
   (9000,⟨1,c.Z9.map fun s=>[I s.parent],3,true⟩),(9001,⟨1,c.Z9.map fun s=>[I s.kind],3,true⟩)])
  (fun i d e=>i<=c.Z9.length/\e 22=false/\e 24=false/\e 26=false/\e 28=false/\e 9000=false/\e 9001=false) (fun i=>c.Z9.length-i) 0 ?_ ?_ ?_ ?_
 ·refine⟨NJ _,?_,?_,?_,?_,?_,?_⟩<;>simp only[go_sem,h,l,n,o,q,r]
 ·have F:=@d7;exact qe
 ·have F:=ai Us P
  (simp only[go_sem,F])
  rw[IB]
 try clear h l n o q r
 rintro i y esc ⟨hi,h,l,n,o,q,r⟩;by_cases g:i<c.Z9.length
 ·have u:=ip g;have C:=aD g (by omega);have hm:=kV (c:=c) (i:=c.Z9.length) g;rw[Mw g]at hm;have F:=ed Us u C hm @d7 US h l n o q r;refine cB ?_;repeat refine ff f0 ?_
  refine cB ?_;repeat refine ff f0 ?_
  refine vV ?_;refine nj ?_;refine cB ?_;repeat refine ff f0 ?_
  refine cB ?_;repeat refine ff f0 ?_
  refine nj ?_
  refine EX (D:=Unit) (f:=83) (first:= #[.int .u32 (pf c i)]) (ks:=(sw (pf c i)).map (Value.int .i64))
   (fun m _ d=>[(1,⟨5,[aA c],26,false⟩),(6,⟨1,[[.loc 28 (d 28) 0 0]],115,false⟩),(9,⟨1,[[I i]],3,false⟩),(28,⟨7,[[.row 9000 (d 9000), .row 9001 (d 9001), .row 22 (d 22), .row 24 (d 24), .row 26 (d 26),b6, .lit (.int .u32 (cz c c.Z9.length))]],171,false⟩),
    (22,⟨1,(mP c c.Z9.length).map jF,169,true⟩),(24,⟨1,(mC c i m).map jF,169,true⟩),(26,⟨1,List.replicate c.Z9.length [I 0],3,true⟩),
    (9000,⟨1,c.Z9.map fun s=>[I s.parent],3,true⟩),(9001,⟨1,c.Z9.map fun s=>[I s.kind],3,true⟩)])
   (fun m _ d e=>(d 1=y 1/\d 6=y 6/\d 22=y 22/\d 9=y 9+1)/\e 22=false/\e 24=false/\e 26=false/\e 28=false/\e 9000=false/\e 9001=false) ()
   (by simp only[go_sem,hm,jF]) (by decide) ((EF (pf c i) (nR z (by omega))).mono hT) ?_ ?_ ?_ ?_
  ·refine⟨⟨?_,?_,?_,?_⟩,?_,?_,?_,?_,?_,?_⟩<;>simp only[go_sem,h,l,n,o,q,r]
  ·(simp only[go_sem,F])
   rw[ER]
  ·rintro m _ v d e -⟨⟨J,K,L,t⟩,h,l,n,o,q,r⟩ hk
   obtain⟨k,E,rfl⟩: ∃k,(zX (pf c i))[m]? =some k/\v= .int .i64 (k:Nat):=by
    rw[sU,P4,NE]at hk;obtain⟨k,h1,h2⟩:=OK.1 hk;exact⟨k,h1,h2.symm⟩
   have hki:=ET z E;have T:((k:Nat):Int)< (c.Z9.length:Int):=by omega
   have hb:=Jr E (by omega);have x:=IC E (by omega);have U:=sS (p:=i) (by omega);have M:=zm (a:=Pc c i k) (b:=2^i) (uT k (by omega)) (jO i (by omega));have F:=ed Us J K L t T U M hb @mB US<|kv h l n o q r;repeat refine st ?_
   refine⟨(),⟨⟨?_,?_,?_,?_⟩,?_,?_,?_,?_,?_,?_⟩,?_⟩;all_goals (first|(simp only[go_sem,J,K,L,t,h,l,n,o,q,r];done)|skip)
   have F:=m7 Us J K L t @QC.{0,0} US
   (simp only[go_sem, <-x,F])
  rintro _ d e -⟨⟨J,K,L,t⟩,h,l,n,o,q,r⟩;have hks:(sw (pf c i)).length=(zX (pf c i)).length:=by rw[sU,NT]
  have N:=ID (c:=c) O i;refine z7 ?_;have F:=m7 Us J K L t u C;repeat refine st ?_
  refine⟨i+1,⟨g,?_,?_,?_,?_,?_,?_⟩,?_,?_,by omega⟩;all_goals (first|(show _=false;simp only[go_sem,h,l,n,o,q,r];done)|skip)
  ·have F:=ii Us J K L t;exact qe
  have F:=m7 Us J K L t hks N;exact qe
 obtain rfl:i=c.Z9.length:=by omega
 have u:=nl c.Z9.length;have F:=qr Us u h l n o q r;refine cB ?_;repeat refine st ?_
 refine cB ?_;repeat refine st ?_
 refine z7 ?_;refine nC 28 9002 0 5 3 1 ?_;refine cV [(9000,⟨1,c.Z9.map fun s=>[I s.parent],3,true⟩),(9001,⟨1,c.Z9.map fun s=>[I s.kind],3,true⟩),(22,⟨1,(mP c c.Z9.length).map jF,169,true⟩),(24,⟨1,(yA c c.Z9.length).map jF,169,true⟩)] ?_ ?_
 ·exact qe
 refine lY [(1, .loc 1 (y 1) 0 0),(6, .loc 6 (y 6) 0 0)] [(1,⟨5,[aA c],26,false⟩),(6,⟨1,[[.loc 28 (y 28) 0 0]],115,false⟩),(28,⟨7,[[.seq 1 (c.Z9.map fun s=>[I s.parent]), .seq 1 (c.Z9.map fun s=>[I s.kind]), .seq 1 ((mP c c.Z9.length).map jF), .seq 1 ((yA c c.Z9.length).map jF), .row 26 (y 26), .row 9002 (y 9002+1), .lit (.int .u32 (cz c c.Z9.length))]],171,false⟩),
  (26,⟨1,List.replicate c.Z9.length [I 0],3,true⟩),(9002,⟨1,[],3,true⟩)] ?_ ?_ ?_
 ·exact TZ
 ·have F:=aA.eq_1;exact qe
 have hwl:=u5 z
 have f1:AF prog env 84 c (c.Z9.map fun s=>[I s.parent]) (c.Z9.map fun s=>[I s.kind]) ((mP c c.Z9.length).map jF) ((yA c c.Z9.length).map jF) (.int .u32 (cz c c.Z9.length)) (-1) [] (List.replicate c.Z9.length 0):=
  BN env c z _ _ _ _ _ 40 (-1) [] (List.replicate c.Z9.length 0) (by omega) (by omega) (by simp) (by simp;omega)
 unfold AF at f1;have F:=mX Us UW Uu @List.map_replicate.{0,0} h l n o q r;repeat refine st ?_
 refine iL [(1000,28),(1001,26),(1002,9002)] f1 ?_;repeat refine st ?_
 refine cV [(26,⟨1,(zj c).map aB,3,true⟩),(9002,⟨1,(g7 c (-1)).map aB,3,true⟩)] ?_ ?_
 ·have F:=zj.eq_1;exact qe
 refine lY [(2, .loc 28 (y 28) 0 0),(3, .lit .nilIface)] [(28,⟨7,[[.seq 1 (c.Z9.map fun s=>[I s.parent]), .seq 1 (c.Z9.map fun s=>[I s.kind]), .seq 1 ((mP c c.Z9.length).map jF), .seq 1 ((yA c c.Z9.length).map jF), .seq 1 ((zj c).map aB), .seq 1 ((g7 c (-1)).map aB), .lit (.int .u32 (cz c c.Z9.length))]],171,false⟩)] ?_ ?_ ?_
 ·exact TZ
 ·have F:=aA.eq_1;exact qe
 (refine aM ?_;refine⟨_,(by show (ag _ _ _).run _=some _;simp only[go_sem];rfl),?_⟩)
 exact fN.refl _
end
end Go.Proofs.YtfhkmjbjafeckaaGreatDoor
