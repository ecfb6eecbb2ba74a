/- tree.New, of a right chart. -/
import Derived.Test.YtfcdkaolcdglmaaGreatDoorP12
import Derived.Test.YtfcdkaolcdglmaaGreatDoorP11
set_option maxRecDepth 100000
set_option maxHeartbeats 8000000
set_option linter.unusedSimpArgs false
set_option linter.defProp false
namespace Go.Proofs.YtfcdkaolcdglmaaGreatDoor
open Go.Proofs.Tryz
section
open Go.RowKit
def rH(a b:Addr)(c:aq):AV:=if (qs c).1=0 then gc else if (qs c).1=8 then dj (qs c).2 (b6 b) else dj (qs c).2 (b6 a)
def xF{a b:Addr}{c:aq}{p:Int}(h:qs c=(0,p)):rH a b c=gc:=by unfold rH;rw[h];rfl
def nR{b a:Addr}{c:aq}{p:Int}(h:qs c=(8,p)):rH b a c=dj p (b6 a):=by unfold rH;rw[h];rfl
def ck{a b:Addr}{c:aq}{p:Int}(h:qs c=(1,p)):rH a b c=dj p (b6 a):=by unfold rH;rw[h];rfl
def ll{c:aq}{i:Nat}{v:Uk}(h:c.vars[i]? =some v):jq c i=qI c i v:=by unfold jq;rw[h]
def pB{c:aq}{i:Nat}{s:pc}(h:c.Z9[i]? =some s):lm c i=cG c i s:=by unfold lm;rw[h]
def pA{c:aq}{i:Nat}{t:Fr}(h:c.trans[i]? =some t):rJ c i=d9 c t:=by unfold rJ;rw[h]
def gZ{p:Nat->Bool}{i:Nat}(h: ∀j,j<i->p j=true)(hi:p i=true): ∀j,j<i+1->p j=true:=fun j a=>by
 by_cases e:j=i
 ·rw[e];exact hi
 exact h j (by omega)
def Gj(env:b7)(z r:Addr)(J:fk env z r)(c:aq)(hc:oV c)
 (hV:c.vars.length<=8-> ∀(i:Nat)(v:Uk),c.vars[i]? =some v->cy prog env 96 [.agg (aA c),I i] (B (qI c i v)))
 (hS:c.Z9.length<=32-> ∀(i:Nat)(s:pc),c.Z9[i]? =some s->cy prog env 97 [.agg (aA c),I i] (B (cG c i s)))
 (hT: ∀t,t∈c.trans->cy prog env 100 [.agg (aA c), .agg (cN t)] (B (d9 c t))):cy prog env 41 [.agg (aA c)] (rH z r c):=by
 have T:=gS J.e8;have k:=dL env c.name (by have:=hc.1;unfold maxLen at this;omega);have d:=og env z r J (-1) (by omega);have o:=yE env c c.initial;have z1:=fJ c.Z9;refine qf func41 call41 ntmps41 results41 ?_;by_cases l1:32<c.Z9.length
 ·have y:(32:Int)< (c.Z9.length:Int):=by omega
  rw[nR (show qs c=(8, -1) by unfold qs;rw[OL (.inl l1)])];have F:=jw WH y T;repeat (first|refine st ?_|refine cC (bW env _ r) ?_)
  exact aR
 have y: ¬(32:Int)< (c.Z9.length:Int):=by omega
 by_cases l2:64<c.trans.length
 ·have C:(64:Int)< (c.trans.length:Int):=by omega
  rw[nR (show qs c=(8, -1) by unfold qs;rw[OL (.inr (.inl l2))])];have F:=mX WH y C T;repeat (first|refine st ?_|refine cC (bW env _ r) ?_)
  exact aR
 have C: ¬(64:Int)< (c.trans.length:Int):=by omega
 by_cases l3:8<c.vars.length
 ·have L:(8:Int)< (c.vars.length:Int):=by omega
  rw[nR (show qs c=(8, -1) by unfold qs;rw[OL (.inr (.inr l3))])];have F:=ld WH y C L T;repeat (first|refine st ?_|refine cC (bW env _ r) ?_)
  exact aR
 have L: ¬(8:Int)< (c.vars.length:Int):=by omega
 have U: ¬(32<c.Z9.length\/64<c.trans.length\/8<c.vars.length):=by omega
 cases G:bT c.name
 ·rw[ck (show qs c=(1, -1) by unfold qs;rw[OK U,OL (.inr G)])];have F:=ld WH y C L G;exact po k d
 cases N:(c.Z9 == [])
 case true=>
  rw[ck (show qs c=(1, -1) by unfold qs;rw[OK U,OL (.inl (by simpa using N))])];have F:=vb WH y C L G z1 N;exact po k d
 have V: ¬(c.Z9=[]\/bT c.name=false):=by
  rw[G];simpa using N
 have g:qs c=(match bC (jq c) c.vars.length with
  |some i=>(1,2000+(i:Int))
  | none=>match bC (lm c) c.Z9.length with
    |some i=>(1,(i:Int))
    | none=>if mb c=false then(1, -1) else match bC (rJ c) c.trans.length with
      |some i=>(1,1000+(i:Int))
      |none=>(0, -1)):=by
  unfold qs;rw[OK U,OK V];rfl
 have F:=vb WH y C L G z1 N;repeat refine PJ k d ?_
 refine lp (D:=Nat) (fun i M=>[(1, .loc 1 (M 1) 0 0),(38,I c.vars.length),(39,I i)]) (fun _ _=>[(1,⟨5,[aA c],26,false⟩)]) (fun i _ _=>i<=c.vars.length/\ ∀j,j<i->jq c j=true) (fun i=>c.vars.length-i) 0 ⟨O6 _,fun j K=>by omega⟩ ?_;rintro i E n ⟨P,a⟩;by_cases b:i<c.vars.length
 ·obtain⟨v,Z,_⟩:=aT b;have h:=mc b;have x:=aD b (by omega);have f:=hV (by omega) i v Z;cases e:qI c i v
  ·have q3:IntKind.i64.wrap (2000+(i:Int))=2000+(i:Int):=bB (by omega) (by omega);have H:=og env z r J (2000+(i:Int)) (by omega);rw[ck (show qs c=(1,2000+(i:Int)) by rw[g,dM b a (by rw[ll Z];exact e)])];have F:=ld WH h x q3 e;exact po f H
  have F:=mX WH h x e;repeat refine g8 f ?_
  exact qn (i+1) ⟨b,gZ a (by rw[ll Z];exact e)⟩
 have h: ¬(i:Int)< (c.vars.length:Int):=by omega
 have hvn:bC (jq c) c.vars.length=none:=bN fun j K=>a j (by omega);rw[hvn]at g;have F:=ai WH h;repeat refine st ?_
 refine lp (D:=Nat) (fun i M=>[(1, .loc 1 (M 1) 0 0),(52,I c.Z9.length),(53,I i)]) (fun _ _=>[(1,⟨5,[aA c],26,false⟩)]) (fun i _ _=>i<=c.Z9.length/\ ∀j,j<i->lm c j=true) (fun i=>c.Z9.length-i) 0 ⟨O6 _,fun j K=>by omega⟩ ?_;try clear E n P a h b i
 rintro i E n ⟨P,a⟩;by_cases b:i<c.Z9.length
 ·obtain⟨s,W,_⟩:=aT b;have h:=mc b;have x:=aD b (by omega);have f:=hS (by omega) i s W;cases e:cG c i s
  ·have H:=og env z r J (i:Int) (by omega);rw[ck (show qs c=(1,(i:Int)) by rw[g,dM b a (by rw[pB W];exact e)])];have F:=mX WH h x e;exact po f H
  have F:=mX WH h x e;repeat refine g8 f ?_
  exact qn (i+1) ⟨b,gZ a (by rw[pB W];exact e)⟩
 have h: ¬(i:Int)< (c.Z9.length:Int):=by omega
 have X:bC (lm c) c.Z9.length=none:=bN fun j K=>a j (by omega);rw[X]at g;by_cases R:0<=c.initial
 case neg=>
  have w:mb c=false:=by unfold mb at_;rw[OK R]
  rw[ck (show qs c=(1, -1) by rw[g,OL w])];have F:=jw WH h R;exact po o d
 obtain⟨m,u⟩:=gk R;by_cases S:(m:Int)< (c.Z9.length:Int)
 case neg=>
  have w:mb c=false:=by unfold mb;rw[u,bO,OT (by omega)]
  have p2':(c.initial< (c.Z9.length:Int))=False:=by rw[u];simpa using S
  rw[ck (show qs c=(1, -1) by rw[g,OL w])];have F:=mX WH h R p2';exact po o d
 obtain⟨q,Q,_⟩:=aT (show m<c.Z9.length by omega);have l:=il env q;have p:mb c=((q.parent == -1)&&eO q):=by unfold mb;rw[u,bO,Q]
 rw[u]at o;cases A:(q.parent == -1)
 ·rw[ck (show qs c=(1, -1) by rw[g,OL (by rw[p,A];rfl)])];have F:=L7 WH WI h u S Q A jF;exact UR o d l
 cases O:eO q
 ·rw[ck (show qs c=(1, -1) by rw[g,OL (by rw[p,A,O];rfl)])];have F:=y' WH WI h u S Q A O jF;exact UR o d l
 rw[OK (by rw[p,A,O];simp)]at g;have F:=y' WH WI h u S Q A O jF;repeat refine V6 o d l ?_
 have F:=ai WH u;refine lq c.trans.length (by omega) (fun i M=>[(1, .loc 1 (M 1) 0 0),(90,CD c.trans),(91,I c.trans.length),(92,I i)]) (fun _ _=>[(1,⟨5,[aA c],26,false⟩)]) (fun i _ _=> ∀j,j<i->rJ c j=true) (fun j K=>by omega) ?_ ?_
 ·try clear E n P a h b i
  rintro i E n b h x a;obtain⟨t,w,Y⟩:=aT b;have f:=hT t Y;cases e:d9 c t
  ·have q3:IntKind.i64.wrap (1000+(i:Int))=1000+(i:Int):=bB (by omega) (by omega);have H:=og env z r J (1000+(i:Int)) (by omega);rw[ck (show qs c=(1,1000+(i:Int)) by rw[g,dM b a (by rw[pA w];exact e)])];have F:=vb WH WP h x q3 w e;exact po f H
  have F:=pf WH WP h x w e;repeat refine g8 f ?_
  exact qn (i+1) ⟨b,gZ a (by rw[pA w];exact e)⟩
 try clear E n P a h b i
 rintro E n h a;rw[xF (show qs c=(0, -1) by rw[g,bN fun j K=>a j (by omega)])];have F:=ai WH h;exact fl
def vQ{n:Nat}(h:n<=maxLen):n<=9223372036854775807:=by unfold maxLen at h;omega
def js{l:List n9}(h:l.length<=maxLen/\ ∀y∈l,jM y):l.length<=9223372036854775807/\ ∀a∈l,a.name.length<=9223372036854775807:=⟨vQ h.1,fun a b=>vQ (h.2 a b).1⟩
def Cp(env:b7)(d e:Addr)(g:fk env d e)(c:aq)(j:c.Z9.length<=1000000)(i:Nat)(s:pc)(b:c.Z9[i]? =some s)(a:zJ s):cy prog env 97 [.agg (aA c),I i] (B (cG c i s)):=by
 have h:i<c.Z9.length:=(OG.1 b).1;have k:=mc h;have f1:=dL env s.name (vQ a.1);have f2:=Gi env c s.name j;have f3:=AB env c i s b;have f5:=pa env d e g c s.ZW (js a.2.1).1 (js a.2.1).2;have f6:=pa env d e g c s.out (js a.2.2).1 (js a.2.2).2;unfold cG;refine qf func97 call97 ntmps97 results97 ?_;cases f:dA c i s
 ·have F:=ld WH k b WI f;exact UR f1 f2 f3
 have f4:=Cq env c i s b j (Ge h f) (vQ a.2.1.1) (vQ a.2.2.1);have F:=ld WH k b WI f;exact Wj f1 f2 f3 f4 f5 f6
def qV{c:aq}{nm:List UInt8}{j:Nat}{x:Uk}(h:newVar c nm j=true)(a:c.vars[j]? =some x)(e:(x.name==nm)=false):newVar c nm (j+1)=true:=by
 unfold newVar at h |-;exact dt h a (by rw[e];rfl)
def JL(env:b7)(c:aq)(w:c.vars.length<=1000000)(i:Nat)(v:Uk)(h:c.vars[i]? =some v)(n:pP v):cy prog env 96 [.agg (aA c),I i] (B (qI c i v)):=by
 have o:i<c.vars.length:=(OG.1 h).1;have r:=mc o;have s:(i:Int)<=(c.vars.length:Int):=by omega
 have f1:=dL env v.name (vQ n);have f2:=dD env v.start;have a:(c.vars.take i).length=i:=by rw[OZ];omega
 refine qf func96 call96 ntmps96 results96 ?_;have F:=vb WH r s h Xc a Rw;repeat refine st ?_
 refine lp (D:=Nat) (fun j t=>[(5, .loc 5 (t 5) 0 0),(16,ur (c.vars.take i)),(17,I i),(18,I j)]) (fun _ _=>[(5,⟨2,[iC v],125,false⟩)]) (fun j _ _=>j<=i/\newVar c v.name j=true) (fun j=>i-j) 0 ⟨O6 _,rfl⟩ ?_;rintro j y m ⟨u,d⟩;by_cases b:j<i
 ·obtain⟨x,k,_⟩:=aT (show j<c.vars.length by omega);have f:(c.vars.take i)[j]? =some x:=by rw[Om,OL b];exact k
  have g:=mc b;have l:=aD b (by omega);cases e:(x.name==v.name)
  ·have F:=pf g l f a Xc e;repeat refine st ?_
   exact qn (j+1) ⟨b,qV d k e⟩
  rw[show qI c i v=false by unfold qI newVar;rw[mW (p:=fun x:Uk=> !(x.name==v.name)) f (by rw[e];rfl)];rfl];have F:=pf g l f a Xc e;exact fl
 have g: ¬(j:Int)< (i:Int):=by omega
 obtain rfl:j=i:=by omega
 have q:qI c j v=(bT v.name&& !(v.name == [100,97,116,97])&& !(v.name == [105,110])&&aL v.start):=by
  unfold qI aL;rw[d];simp only[PQ,TE]
 rw[q];have F:=jw g Xc jF;exact po f1 f2
def Gg(env:b7)(d e:Addr)(i:fk env d e)(c:aq)(t:Fr)(f:zI t):cy prog env 100 [.agg (aA c), .agg (cN t)] (B (d9 c t)):=by
 have f1:=yE env c t.src;have f3:=dL env t.Z7 (vQ f.1);have f4:=wD env d e i c t.guard;have f5:=pa env d e i c t.ZZ (js f.2.2).1 (js f.2.2).2;have f6:=yE env c t.target;have l:=fJ t.guard;by_cases b:0<=t.src
 case neg=>
  rw[show d9 c t=false by unfold d9 ar at_;rw[OK b];rfl];refine qf func100 call100 ntmps100 results100 ?_;have F:=jw WH WP b;exact nb f1
 obtain⟨m,a⟩:=gk b;by_cases h:(m:Int)< (c.Z9.length:Int)
 case neg=>
  rw[show d9 c t=false by unfold d9 ar;rw[a,bO,OT (by omega)];rfl];have g:(t.src< (c.Z9.length:Int))=False:=by rw[a];simpa using h
  refine qf func100 call100 ntmps100 results100 ?_;have F:=mX WH WP b g;exact nb f1
 obtain⟨q,j,_⟩:=aT (show m<c.Z9.length by omega);have f2:=il env q;have k:d9 c t=(eO q&&((t.Z7 == [])||bT t.Z7)&&((t.guard == [])||cP t.guard c.vars.length c.Z9.length)&&eR c.vars.length c.Z9.length t.ZZ&&((t.target == -1)||(decide (0<=t.target)&&decide (t.target<c.Z9.length)))):=by unfold d9;rw[a,kQ j]
 rw[k];rw[a]at f1;refine qf func100 call100 ntmps100 results100 ?_;have F:=vb WH WP WI a h j l;exact Wj f1 f2 f3 f4 f5 f6
end
section
open Go.RowKit Go.ChangeShapes
def Cs(env:b7)(a b:Addr)(e:fk env a b)(c:aq)(d:oV c):cy prog env 41 [.agg (aA c)] (rH a b c):=
 Gj env a b e c d (fun h i v g=>JL env c (by omega) i v g (d.2.1.2 v (OM g))) (fun h i s f=>Cp env a b e c (by omega) i s f (d.2.2.1.2 s (OM f))) (fun t j=>Gg env a b e c t (d.2.2.2.2 t j))
end
section
open Go.RowKit
def ns:List Nat->Nat->List Nat->List Nat
 |[],_,a=>a
 |k::l,n,a=>ns l (n+1) (a.set k n)
def qT: ∀(l:List Nat)(n:Nat)(a:List Nat),(ns l n a).length=a.length
 |[],_,_=>rfl
 |k::l,n,a=>by unfold ns;rw[qT,QO]
def qU: ∀(a b:List Nat)(n:Nat)(c:List Nat),ns (a++b) n c=ns b (n+a.length) (ns a n c)
 |[],_,_,_=>rfl
 | k::a,b,n,c=>by
   show ns (a++b) (n+1) (c.set k n)=ns b (n+(a.length+1)) (ns a (n+1) (c.set k n));rw[qU,QY,SQ 1]
def TR(ps ks c a:List (List AV))(b:Value)(g:Nat->Nat)(d l:List Nat):List (Nat×Row):=
 [(1000,⟨7,[[.seq 1 ps, .seq 1 ks, .seq 1 c, .seq 1 a, .row 1001 (g 1001), .row 1002 (g 1002), .lit b]],117,false⟩),(1001,⟨1,d.map aB,3,true⟩),(1002,⟨1,l.map aB,3,true⟩)]
def Xk:=@TR.eq_1
def P'(c:aq)(K:List Nat)(j:Nat):List Nat:=(K.take j).flatMap fun k=>k::mv c k
def Fp{c:aq}{K:List Nat}{j k:Nat}(h:K[j]? =some k):P' c K (j+1)=P' c K j++k::mv c k:=by
 unfold P';rw[Ot,h,QC];simp
def Il{c:aq}(K:List Nat):P' c K K.length=K.flatMap fun k=>k::mv c k:=by
 unfold P';rw[Ob]
def L4{c:aq}(K:List Nat)(j:Nat):(P' c K j).length<=(K.flatMap fun k=>k::mv c k).length:=by
 conv=>rhs;rw[<-Qn j K,QC,ON]
 exact TN _ _
def zU(P:Program)(env:b7)(f:FuncId)(c:aq)(ps ks d a:List (List AV))(b:Value)(i:Int)(l e:List Nat):Prop:=
 g6 P env f [1000,1001,1002] (fun k=>k==1002) (fun g=>[.loc 1000 (g 1000) 0 0, .agg (aA c),I i]) (fun g=>TR ps ks d a b g e l) (fun g=>TR ps ks d a b g (ns (mv c i) l.length e) (l++mv c i)) (fun _=> .lit (.tuple #[]))
def vX(env:b7)(c:aq)(z:Right c)(ps ks G y:List (List AV))(E:Value)(i:Int)(l g:List Nat)(hi: -1<=i)(v:g.length=c.Z9.length)(q:l.length+(mv c i).length<=1000000)
 (R: ∀k∈aw c i false,∀l g,g.length=c.Z9.length->l.length+(mv c k).length<=1000000->zU prog env 44 c ps ks G y E k l g):zU prog env 44 c ps ks G y E i l g:=by
 unfold zU at*
 have s:=z.Z6;have f0:=pY env c i (by omega);rw[Uf z hi]at q |-;have H:(aw c i false).length<=32:=O3 (dR c i false _) s;generalize P:aw c i false=K at*;refine qi func44 call44 ntmps44 results44 ?_;intro N O e;have m:=e 1000 (by simp);have n:=e 1001 (by simp);have o:=e 1002 (by simp);have F:=ld Xk m n o WH;repeat refine g8 f0 ?_
 refine aN (D:=Nat) (fun j a=>[(0, .loc 1000 (a 1000) 0 0),(4, .loc 4 (a 4) 0 0),(10, .row 10 (a 10)),(11,I K.length),(12,I j)]) (fun j a=>TR ps ks G y E a (ns (P' c K j) l.length g) (l++P' c K j)++[(4,⟨5,[aA c],26,false⟩),(10,⟨1,K.map aB,3,true⟩)]) (fun j a d=>(j<=K.length/\a 1000=N 1000/\a 1001=N 1001)/\d 1000=false/\d 1001=false/\d 1002=false) (fun j=>K.length-j) 0 ?_ ?_ ?_ ?_
 ·exact⟨⟨O6 _,by simp only[go_sem],by simp only[go_sem]⟩,by simp only[go_sem,m],by simp only[go_sem,n],by simp only[go_sem,o]⟩
 ·exact qe
 ·have F:=ai Xk WH
  (simp only[go_sem,F])
  refine⟨rfl,?_⟩;show _=(⟨1,List.map aB (l++[]),3,true⟩:Row);rw[P9]
 try clear m n o
 rintro j W d ⟨⟨V,L,M⟩,m,n,o⟩;by_cases h:j<K.length
 ·obtain⟨k,x⟩:=gE h;have A:k∈aw c i false:=by rw[P];exact OM x
  have U:=bK z A;have b:=Fp (c:=c) x;have r:=L4 (c:=c) K (j+1);have w:=qT (P' c K j) l.length g;have t:=qU (P' c K j) (k::mv c k) l.length g;rw[b]at r;rw[ON,OU]at r;generalize ns (P' c K j) l.length g=f at*;have f1:=R k (OM x) (l++P' c K j++[k]) (f.set k (l++P' c K j).length) (by rw[QO,w,v]) (by simp only[ON,OU,Q0];omega);have C:=mc h;have S:=aD h (by omega);have T:((k:Nat):Int)< (f.length:Int):=by rw[w,v];omega
  obtain⟨J,B⟩: ∃J,f[k]? =some J:=⟨f[k]'(by omega),OE _⟩;have Q:ek (l.length+(P' c K j).length+1) 8:=⟨by omega,by omega⟩;have F:=fb Xk m n o WH C S T x Q WJ<|jw @Oa.{0,0} B @Rk.{0,0};have u:ns (P' c K (j+1)) l.length g=ns (mv c k) (l.length+(P' c K j).length+1) (f.set k (l.length+(P' c K j).length)):=by rw[b,t];rfl
  repeat refine st ?_
  refine iL [(1000,1000),(1001,1001),(1002,1002)] f1 ?_;repeat refine st ?_
  refine⟨j+1,⟨⟨h,?_,?_⟩,?_,?_,?_⟩,?_,?_,by omega⟩
  ·simp only[go_sem];exact L
  ·simp only[go_sem];exact M
  ·simp only[go_sem,m]
  ·simp only[go_sem,n]
  ·simp only[go_sem,o]
  ·exact qe
  have F:=L7 Xk WH WJ @Oa.{0,0} @Rk.{0,0} u b @O1.{0}
  (simp only[go_sem,F])
  rw[t];rfl
 obtain rfl:j=K.length:=by omega
 have C:=nl K.length;have p:=Il (c:=c) K;have F:=y' Xk m n o WH C p L M;repeat refine st ?_
 exact rN
def Af(env:b7)(c:aq)(e:Right c)(ps ks h f:List (List AV))(g:Value): ∀(n:Nat)(i:Int)(l b:List Nat), -1<=i->(c.Z9.length:Int)<=i+n->b.length=c.Z9.length->l.length+(mv c i).length<=1000000->zU prog env 44 c ps ks h f g i l b
 |0,i,l,b,j,q,d,a=>vX env c e ps ks h f g i l b j d a fun k m=>by have:=bK e m;omega
 |n+1,i,l,b,j,q,d,a=>vX env c e ps ks h f g i l b j d a fun k m l b o p=>by have:=bK e m;exact Af env c e ps ks h f g n k l b (by omega) (by omega) o p
def iz(m:Nat):List AV:=[.lit (.int .u32 m)]
def Xe:=@iz.eq_1
def mB(c:aq)(i:Nat):List Nat:=(List.range c.Z9.length).map fun j=>if j<i then ql c j else 0
def DW(c:aq)(i:Nat)(s:pc):Bool:=s.kind != 4&&s.kind != 5&&(((aw c i true).length:Int)==0)
def cv(c:aq):Nat->Nat
 |0=>0
 | i+1=>match c.Z9[i]? with
   |some s=>if DW c i s then cv c i||| 2^i else cv c i
   |none=>cv c i
def wG(c:aq):(mB c 0).map iz=List.replicate c.Z9.length [.lit (.int .u32 0)]:=by
 unfold mB;rw[Q1]
 have: ∀n:Nat,(List.range n).map (iz ∘ fun(j:Nat)=>if j<0 then ql c j else 0)=List.replicate n [.lit (.int .u32 0)]:=fun n=>by
  rw[List.eq_replicate_iff];refine⟨by simp,fun b a=> ?_⟩;obtain⟨j,_,rfl⟩:=OW.1 a;rfl
 exact this _
def kX{c:aq}{i j:Nat}(a:j<c.Z9.length):(mB c i)[j]? =some (if j<i then ql c j else 0):=by
 unfold mB;rw[OS,Pn a];rfl
def d6(c:aq)(i:Nat):(mB c i).length=c.Z9.length:=by simp[mB]
def BN{c:aq}{i:Nat}(hi:i<c.Z9.length):(mB c i).set i (ql c i)=mB c (i+1):=by
 apply PM;intro k;by_cases b:k<c.Z9.length
 ·rw[kX b,Pg,d6];by_cases e:i=k
  ·subst e;simp[hi]
  rw[OK e,kX b];by_cases a:k<i
  ·rw[OL a,OL (by omega)]
  rw[OK a,OK (by omega)]
 rw[OT (by rw[QO,d6];omega),OT (by rw[d6];omega)]
def Gu{c:aq}{i:Nat}(hi:i<c.Z9.length)(a:ql c i=0):mB c i=mB c (i+1):=by
 rw[<-BN hi,a];apply PM;intro k;rw[Pg,d6];by_cases e:i=k
 ·subst e;rw[kX hi];simp[hi]
 rw[OK e]
def yy{a b:Nat}(c:a<4294967296)(d:b<4294967296):tc .or .u32 (a:Int) (b:Int)=((a||| b:Nat):Int):=by
 have e:a||| b<2^32:=TK (by omega) (by omega);show IntKind.u32.wrap ((BitVec.ofInt 32 (a:Int)||| BitVec.ofInt 32 (b:Int)).toNat:Int)=_;rw[T4,ofInt_u32 a c,ofInt_u32 b d,Rx];omega
def sF{p:Nat}(b:p<32):IntKind.u32.wrap (1*2^min p 32)=((2^p:Nat):Int):=by
 have h:=jI p b;have a: ∀q:Nat,q<4294967296->(q:Int)%4294967296=q:=fun q h=>by omega
 rw[show min p 32=p by omega,Rx,Int.one_mul,show ((2:Int)^p)=((2^p:Nat):Int) by rw[Sn];rfl];exact a _ h
def ny{c:aq} : ∀ {i:Nat},i<=32->cv c i<4294967296
 |0,_=>by show 0<4294967296;decide
 | i+1,h=>by
   have a:=ny (c:=c) (i:=i) (by omega);have b:=jI i (by omega);unfold cv;split
   ·split
    ·exact TK (n:=32) a b
    exact a
   exact a
/-! What is beneath -/
def yh(m:Nat):List Nat:=(List.range 32).filter fun(b:Nat)=>m/2^b%2==1
def sJ(m:Nat):i' m=(yh m).map fun(b:Nat)=>(b:Int):=rfl
def F9(m b:Nat):(m/2^b%2==1)=m.testBit b:=by
 rw[Nat.testBit_eq_decide_div_mod_eq];rfl
def uf{m b:Nat} :b∈yh m↔b<32/\m.testBit b=true:=by
 unfold yh;rw[OY,Oh,F9]
def Dv(m:Nat):(yh m).Nodup:=TD Pf List.nodup_range
def Uq(c:aq):Nat->Nat->Nat
 |0,_=>0
 |i+1,j=>if (ql c i).testBit j then Uq c i j||| 2^i else Uq c i j
def tj{c:aq} : ∀ {i:Nat}(j:Nat),i<=32->Uq c i j<4294967296
 |0,_,_=>by show 0<4294967296;decide
 | i+1,j,h=>by
   have a:=tj (c:=c) (i:=i) j (by omega);have b:=jI i (by omega);unfold Uq;split
   ·exact TK (n:=32) a b
   exact a
def xJ(c:aq)(i:Nat):List Nat:=(List.range c.Z9.length).map (Uq c i)
def lr(c:aq)(i m:Nat):List Nat:=(List.range c.Z9.length).map fun(j:Nat)=>if j∈(yh (ql c i)).take m then Uq c i j||| 2^i else Uq c i j
def ln(c:aq)(i m:Nat):(lr c i m).length=c.Z9.length:=by simp[lr]
def Du(c:aq)(i:Nat):lr c i 0=xJ c i:=by
 unfold lr xJ;apply Po;intro j _;simp
def IH{c:aq}(h:c.Z9.length<=32)(i:Nat):lr c i (yh (ql c i)).length=xJ c (i+1):=by
 unfold lr xJ;apply Po;intro j b;have b:=Oh.1 b;rw[Ob];show _=if (ql c i).testBit j then Uq c i j||| 2^i else Uq c i j
 by_cases a:(ql c i).testBit j=true
 ·rw[OL (uf.2 ⟨by omega,a⟩),OL a]
 rw[OK (fun d=>a (uf.1 d).2),OK a]
def KX{c:aq}{i m k:Nat}(h:(yh (ql c i))[m]? =some k)(l:k<c.Z9.length):(lr c i m)[k]? =some (Uq c i k):=by
 unfold lr;rw[OS,Pn l];simp only[O0,OH];rw[OK];intro j;obtain⟨q,a⟩:=QB.1 j;rw[Om]at a;split at a
 ·rename_i b;obtain⟨d,e⟩:=OG.1 h;obtain⟨f,g⟩:=OG.1 a;exact(Ow.1 (Dv (ql c i))) q m f d b (g.trans e.symm)
 cases a
def IG{c:aq}{i m k:Nat}(b:(yh (ql c i))[m]? =some k)(d:k<c.Z9.length):(lr c i m).set k (Uq c i k||| 2^i)=lr c i (m+1):=by
 apply PM;intro j;rw[Pg,ln];by_cases a:j<c.Z9.length
 ·unfold lr;rw[OS,Pn a,OS,Pn a,Ot,b];simp only[O0,TF,Of,O2];by_cases e:k=j
  ·subst e;simp[d]
  rw[OK e];simp[Py e]
 rw[OT (by rw[ln];omega),OT (by rw[ln];omega)];by_cases e:k=j
 ·omega
 rw[OK e]
def IF(c:aq):(xJ c 0).map iz=List.replicate c.Z9.length [.lit (.int .u32 0)]:=by
 rw[<-wG];unfold xJ mB
 congr 1
def Dw{c:aq}(h:Right c){i m k:Nat}(a:(yh (ql c i))[m]? =some k):k<i:=by
 have:=(uf.1 (OM a)).2;rw[si h,OR]at this;have:=kZ h 40 _ _ this;omega
def Ae{c:aq}(h:Right c):(mv c (-1)).length<=c.Z9.length:=by
 have:=(kF h 40 (-1) (by omega) (by have:=h.Z6;omega)).length_le_of_subset (l₂:=List.range c.Z9.length) fun m a=>Oh.2 ((jc h m).1 a);simpa using this
def yw(c:aq):List Nat:=ns (mv c (-1)) 0 (List.replicate c.Z9.length 0)
def aS(c:aq):AV:= .ref 7 [[.seq 1 (c.Z9.map fun s=>[I s.parent]), .seq 1 (c.Z9.map fun s=>[I s.kind]), .seq 1 ((mB c c.Z9.length).map iz), .seq 1 ((xJ c c.Z9.length).map iz), .seq 1 ((yw c).map aB), .seq 1 ((mv c (-1)).map aB), .lit (.int .u32 (cv c c.Z9.length))]] 0 0
def Xa:=@aS.eq_1
def Iu(env:b7)(Z a8:Addr)(he:fk env Z a8)(hT: ∀W,env.inv W->sy W)(c:aq)(z:Right c)(hch:rH Z a8 c= .lit .nilIface)(hcf:oV c):cy prog env 14 [.agg (aA c)] (.tuple [aS c, .lit .nilIface]):=by
 have O:=z.Z6;have f0:=Cs env Z a8 he c hcf;rw[hch]at f0;refine xl func14 rfl call14 (by rw[ntmps14];simp) ?_;rw[ntmps14,results14];have F:=aA.eq_1;refine bn ?_;repeat refine g8 f0 ?_
 refine bn ?_;repeat refine g8 f0 ?_
 refine bn ?_;repeat refine g8 f0 ?_
 have m0: ¬(c.Z9.length:Int)<0:=by omega
 have m1: ¬(16777216:Int)< (c.Z9.length:Int):=by omega
 have m2: ¬(281474976710656:Int)<4*(c.Z9.length:Int):=by omega
 have m3: ¬(281474976710656:Int)<8*(c.Z9.length:Int):=by omega
 have F:=ld WH m0 m1 m2 m3;refine bn ?_;repeat refine g8 f0 ?_
 refine bn ?_;repeat refine g8 f0 ?_
 refine nC 28 9000 0 0 3 1 ?_;refine nC 28 9001 0 1 3 1 ?_
 refine aN (D:=Nat) (fun i d=>[(1, .loc 1 (d 1) 0 0),(6, .loc 6 (d 6) 0 0),(30,u6 c.Z9),(31,I c.Z9.length),(32,I i)])
  (fun i d=>[(1,⟨5,[aA c],26,false⟩),(6,⟨1,[[.loc 28 (d 28) 0 0]],56,false⟩),(28,⟨7,[[.row 9000 (d 9000), .row 9001 (d 9001), .row 22 (d 22), .row 24 (d 24), .row 26 (d 26),gb, .lit (.int .u32 (cv c i))]],117,false⟩),
   (22,⟨1,(mB c i).map iz,115,true⟩),(24,⟨1,List.replicate c.Z9.length [.lit (.int .u32 0)],115,true⟩),(26,⟨1,List.replicate c.Z9.length [I 0],3,true⟩),
   (9000,⟨1,(c.Z9.take i).map fun s=>[I s.parent],3,true⟩),(9001,⟨1,(c.Z9.take i).map fun s=>[I s.kind],3,true⟩)])
  (fun i d e=>i<=c.Z9.length/\e 22=false/\e 24=false/\e 26=false/\e 28=false/\e 9000=false/\e 9001=false) (fun i=>c.Z9.length-i) 0 ?_ ?_ ?_ ?_
 ·refine⟨O6 _,?_,?_,?_,?_,?_,?_⟩<;>simp only[go_sem]
 ·exact qe
 ·have F:=ai WH cv.eq_1
  (simp only[go_sem,F])
  rw[wG]
 rintro i y esc ⟨hi,h,l,n,o,q,r⟩;by_cases g:i<c.Z9.length
 ·obtain⟨s,x,_⟩:=aT g;have u:=mc g;have C:=aD g (by omega);have f1:=gf env c i (by omega);have hpar:=z.par i s x;have Y:ek (i+1) 8:=⟨by omega,by omega⟩;have A:(c.Z9.take i).length=i:=by rw[OZ];omega
  have Q:c.Z9.take (i+1)=c.Z9.take i++[s]:=by rw[Ot,x];rfl
  have w:=kX (c:=c) (i:=i) g;rw[OK (Nat.lt_irrefl i)]at w
  have hl:cv c (i+1)=if DW c i s then cv c i||| 2^i else cv c i:=by
   show (match c.Z9[i]? with|some s=>if DW c i s then cv c i||| 2^i else cv c i|none=>cv c i)=_;rw[x]
  have V:=yy (a:=cv c i) (b:=2^i) (ny (by omega)) (jI i (by omega));have X:=sF (p:=i) (by omega);by_cases B:0<=s.parent
  ·obtain⟨p,B⟩: ∃p:Nat,s.parent=p:=⟨s.parent.toNat,by omega⟩;have G:=kX (c:=c) (i:=i) (j:=p) (by omega);rw[OL (by omega)]at G;have T:((p:Nat):Int)< (c.Z9.length:Int):=by omega
   have U:=sF (p:=p) (by omega)
   have hnx:ql c i=ql c p||| 2^p:=by
    have:=wJ z (ak.2 g);rw[fH x,B]at this;rw[this,OL (by omega),Pd]
   have M:=yy (a:=ql c p) (b:=2^p) (nA z (by omega)) (jI p (by omega));rw[<-hnx]at M;have H:=BN (c:=c) g;cases t:(s.kind != 4)<;>cases S:(s.kind != 5)<;>cases R:(((aw c i true).length:Int)==0);all_goals have F:=fb WH WI u C V X x B Y A w<|fb @d6 Xe t S R h l n o q r<|mX T U M G
   all_goals (repeat refine g8 f1 ?_)
   all_goals (refine⟨i+1,⟨g,?_,?_,?_,?_,?_,?_⟩,?_,?_,by omega⟩)
   all_goals (first|(show _=false;simp only[go_sem,h,l,n,o,q,r];done)|skip)
   all_goals have F:=fb WH WI u C V X x B Y A w<|fb @d6 Xe t S R h l n o q r<|y' T U M G hl DW.eq_1 Q @Oa.{0,0} @Rk.{0,0}
   all_goals ((simp only[go_sem, <-H,F]))
  have B:s.parent= -1:=by omega
  have hm0:ql c i=0:=by
   have:=wJ z (ak.2 g);rw[fH x,B]at this;rw[this,OK (by omega)]
  have H:=Gu g hm0;cases t:(s.kind != 4)<;>cases S:(s.kind != 5)<;>cases R:(((aw c i true).length:Int)==0);all_goals have F:=fb WH WI u C V X x B Y A w<|u4 @d6 Xe t S R h l n o q r
  all_goals (repeat refine g8 f1 ?_)
  all_goals (refine⟨i+1,⟨g,?_,?_,?_,?_,?_,?_⟩,?_,?_,by omega⟩)
  all_goals (first|(show _=false;simp only[go_sem,h,l,n,o,q,r];done)|skip)
  all_goals have F:=fb WH WI u C V X x B Y A w<|fb @d6 Xe t S R h l n o q r<|ld hl DW.eq_1 Q @Oa.{0,0} H
  all_goals ((simp only[go_sem,F]))
 obtain rfl:i=c.Z9.length:=by omega
 have u:=nl c.Z9.length;have P:c.Z9.take c.Z9.length=c.Z9:=Ob;have F:=y' WH u h l n o q r P;repeat refine g8 f0 ?_
 refine ui ?_;refine bn ?_;repeat refine g8 f0 ?_
 refine nU ?_
 refine IK (D:=Nat) (fun i d=>[(1, .loc 1 (d 1) 0 0),(6, .loc 6 (d 6) 0 0),(108, .row 22 (d 22)),(109,I c.Z9.length),(110,I i)])
  (fun i d=>[(1,⟨5,[aA c],26,false⟩),(6,⟨1,[[.loc 28 (d 28) 0 0]],56,false⟩),(28,⟨7,[[.row 9000 (d 9000), .row 9001 (d 9001), .row 22 (d 22), .row 24 (d 24), .row 26 (d 26),gb, .lit (.int .u32 (cv c c.Z9.length))]],117,false⟩),
   (22,⟨1,(mB c c.Z9.length).map iz,115,true⟩),(24,⟨1,(xJ c i).map iz,115,true⟩),(26,⟨1,List.replicate c.Z9.length [I 0],3,true⟩),
   (9000,⟨1,c.Z9.map fun s=>[I s.parent],3,true⟩),(9001,⟨1,c.Z9.map fun s=>[I s.kind],3,true⟩)])
  (fun i d e=>i<=c.Z9.length/\e 22=false/\e 24=false/\e 26=false/\e 28=false/\e 9000=false/\e 9001=false) (fun i=>c.Z9.length-i) 0 ?_ ?_ ?_ ?_
 ·refine⟨O6 _,?_,?_,?_,?_,?_,?_⟩<;>simp only[go_sem,h,l,n,o,q,r]
 ·have F:=@d6;exact qe
 ·have F:=ai WH P
  (simp only[go_sem,F])
  rw[IF]
 try clear h l n o q r
 rintro i y esc ⟨hi,h,l,n,o,q,r⟩;by_cases g:i<c.Z9.length
 ·have u:=mc g;have C:=aD g (by omega);have hm:=kX (c:=c) (i:=c.Z9.length) g;rw[OL g]at hm;have F:=fb WH u C hm @d6 Xe h l n o q r;refine bn ?_;repeat refine g8 f0 ?_
  refine bn ?_;repeat refine g8 f0 ?_
  refine ui ?_;refine nU ?_;refine bn ?_;repeat refine g8 f0 ?_
  refine bn ?_;repeat refine g8 f0 ?_
  refine nU ?_
  refine EB (D:=Unit) (f:=43) (first:= #[.int .u32 (ql c i)]) (ks:=(i' (ql c i)).map (Value.int .i64))
   (fun m _ d=>[(1,⟨5,[aA c],26,false⟩),(6,⟨1,[[.loc 28 (d 28) 0 0]],56,false⟩),(9,⟨1,[[I i]],3,false⟩),(28,⟨7,[[.row 9000 (d 9000), .row 9001 (d 9001), .row 22 (d 22), .row 24 (d 24), .row 26 (d 26),gb, .lit (.int .u32 (cv c c.Z9.length))]],117,false⟩),
    (22,⟨1,(mB c c.Z9.length).map iz,115,true⟩),(24,⟨1,(lr c i m).map iz,115,true⟩),(26,⟨1,List.replicate c.Z9.length [I 0],3,true⟩),
    (9000,⟨1,c.Z9.map fun s=>[I s.parent],3,true⟩),(9001,⟨1,c.Z9.map fun s=>[I s.kind],3,true⟩)])
   (fun m _ d e=>(d 1=y 1/\d 6=y 6/\d 22=y 22/\d 9=y 9+1)/\e 22=false/\e 24=false/\e 26=false/\e 28=false/\e 9000=false/\e 9001=false) ()
   (by simp only[go_sem,hm,iz]) (by decide) ((Dg (ql c i) (nA z (by omega))).mono hT) ?_ ?_ ?_ ?_
  ·refine⟨⟨?_,?_,?_,?_⟩,?_,?_,?_,?_,?_,?_⟩<;>simp only[go_sem,h,l,n,o,q,r]
  ·(simp only[go_sem,F])
   rw[Du]
  ·rintro m _ v d e -⟨⟨J,K,L,t⟩,h,l,n,o,q,r⟩ hk
   obtain⟨k,E,rfl⟩: ∃k,(yh (ql c i))[m]? =some k/\v= .int .i64 (k:Nat):=by
    rw[sJ,Q1,OS]at hk;obtain⟨k,h1,h2⟩:=P6.1 hk;exact⟨k,h1,h2.symm⟩
   have hki:=Dw z E;have T:((k:Nat):Int)< (c.Z9.length:Int):=by omega
   have hb:=KX E (by omega);have x:=IG E (by omega);have U:=sF (p:=i) (by omega);have M:=yy (a:=Uq c i k) (b:=2^i) (tj k (by omega)) (jI i (by omega));have F:=fb WH J K L t T U M hb @ln Xe<|pf h l n o q r;repeat refine st ?_
   refine⟨(),⟨⟨?_,?_,?_,?_⟩,?_,?_,?_,?_,?_,?_⟩,?_⟩;all_goals (first|(simp only[go_sem,J,K,L,t,h,l,n,o,q,r];done)|skip)
   have F:=vb WH J K L t @Rk.{0,0} Xe
   (simp only[go_sem, <-x,F])
  rintro _ d e -⟨⟨J,K,L,t⟩,h,l,n,o,q,r⟩;have hks:(i' (ql c i)).length=(yh (ql c i)).length:=by rw[sJ,O4]
  have N:=IH (c:=c) O i;refine yl ?_;have F:=vb WH J K L t u C;repeat refine st ?_
  refine⟨i+1,⟨g,?_,?_,?_,?_,?_,?_⟩,?_,?_,by omega⟩;all_goals (first|(show _=false;simp only[go_sem,h,l,n,o,q,r];done)|skip)
  ·have F:=ld WH J K L t;exact qe
  have F:=vb WH J K L t hks N;exact qe
 obtain rfl:i=c.Z9.length:=by omega
 have u:=nl c.Z9.length;have F:=L7 WH u h l n o q r;refine bn ?_;repeat refine st ?_
 refine bn ?_;repeat refine st ?_
 refine yl ?_;refine nC 28 9002 0 5 3 1 ?_;refine dH [(9000,⟨1,c.Z9.map fun s=>[I s.parent],3,true⟩),(9001,⟨1,c.Z9.map fun s=>[I s.kind],3,true⟩),(22,⟨1,(mB c c.Z9.length).map iz,115,true⟩),(24,⟨1,(xJ c c.Z9.length).map iz,115,true⟩)] ?_ ?_
 ·exact qe
 refine pE [(1, .loc 1 (y 1) 0 0),(6, .loc 6 (y 6) 0 0)] [(1,⟨5,[aA c],26,false⟩),(6,⟨1,[[.loc 28 (y 28) 0 0]],56,false⟩),(28,⟨7,[[.seq 1 (c.Z9.map fun s=>[I s.parent]), .seq 1 (c.Z9.map fun s=>[I s.kind]), .seq 1 ((mB c c.Z9.length).map iz), .seq 1 ((xJ c c.Z9.length).map iz), .row 26 (y 26), .row 9002 (y 9002+1), .lit (.int .u32 (cv c c.Z9.length))]],117,false⟩),
  (26,⟨1,List.replicate c.Z9.length [I 0],3,true⟩),(9002,⟨1,[],3,true⟩)] ?_ ?_ ?_
 ·exact Wg
 ·have F:=aA.eq_1;exact qe
 have hwl:=Ae z
 have f1:zU prog env 44 c (c.Z9.map fun s=>[I s.parent]) (c.Z9.map fun s=>[I s.kind]) ((mB c c.Z9.length).map iz) ((xJ c c.Z9.length).map iz) (.int .u32 (cv c c.Z9.length)) (-1) [] (List.replicate c.Z9.length 0):=
  Af env c z _ _ _ _ _ 40 (-1) [] (List.replicate c.Z9.length 0) (by omega) (by omega) (by simp) (by simp;omega)
 unfold zU at f1;have F:=zs WH Xk WJ @List.map_replicate.{0,0} h l n o q r;repeat refine st ?_
 refine iL [(1000,28),(1001,26),(1002,9002)] f1 ?_;repeat refine st ?_
 refine dH [(26,⟨1,(yw c).map aB,3,true⟩),(9002,⟨1,(mv c (-1)).map aB,3,true⟩)] ?_ ?_
 ·have F:=yw.eq_1;exact qe
 refine pE [(2, .loc 28 (y 28) 0 0),(3, .lit .nilIface)] [(28,⟨7,[[.seq 1 (c.Z9.map fun s=>[I s.parent]), .seq 1 (c.Z9.map fun s=>[I s.kind]), .seq 1 ((mB c c.Z9.length).map iz), .seq 1 ((xJ c c.Z9.length).map iz), .seq 1 ((yw c).map aB), .seq 1 ((mv c (-1)).map aB), .lit (.int .u32 (cv c c.Z9.length))]],117,false⟩)] ?_ ?_ ?_
 ·exact Wg
 ·have F:=aA.eq_1;exact qe
 (refine aO ?_;refine⟨_,(by show (au _ _ _).run _=some _;simp only[go_sem];rfl),?_⟩)
 exact i8.refl _
end
end Go.Proofs.YtfcdkaolcdglmaaGreatDoor
