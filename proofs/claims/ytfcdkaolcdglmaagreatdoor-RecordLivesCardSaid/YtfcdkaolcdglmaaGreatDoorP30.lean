/- field.Take's error, the reader's num. -/
import Derived.Test.YtfcdkaolcdglmaaGreatDoorP29
import Derived.Deep.DeepCutAuto
set_option linter.unusedSimpArgs false
set_option maxRecDepth 100000
set_option maxHeartbeats 4000000
set_option linter.defProp false
namespace Go.Proofs.YtfcdkaolcdglmaaGreatDoor
open Go.Proofs.Tryz
open Go.RowKit
section
def EV(a x b:List UInt8)(n:Nat)(c:x.length=n):cut (a++x++b) a.length n=x:=by
 subst c;simp[cut,O1]
def eD(e b d:List UInt8)(c n a:Nat)(g:e=b++b8 c n++d)(f:a=b.length)(j:n<256^c)(i:n<=4611686018427387904):Bx e a c=some (n,a+c):=by
 subst g f;have h:=EV b (b8 c n) d c (aU _ _);rw[Bx,h,rp c n j,OL ⟨by simp[aU],i⟩]
def JI(d b t c:List UInt8)(a:Nat)(f:d=b++(b8 2 t.length++t)++c)(e:a=b.length)(i:t.length<65536):Uo d a=some (t,a+2+t.length):=by
 subst f e
 have g:cut (b++(b8 2 t.length++t)++c) b.length 2=b8 2 t.length:=by
  have:=EV b (b8 2 t.length) (t++c) 2 (aU _ _);simpa[O1]using this
 have h:cut (b++(b8 2 t.length++t)++c) (b.length+2) t.length=t:=by
  have:=EV (b++b8 2 t.length) t c t.length rfl;simpa[O1,aU]using this
 rw[Uo,g,rp 2 _ (by simpa using i),h,OL ⟨by simp[aU],by simp[aU];omega⟩]
def zY(v:Int):px (DM v)=v:=by
 unfold px DM;split<;>split<;>omega
def uZ(v:Int)(a: -2147483647<=v)(b:v<=2147483647):DM v<4294967296:=by
 unfold DM;split<;>omega
def mh(n k:Nat):List Int:=((List.range k).filter fun(i:Nat)=>n/2^i%2==1).map fun(i:Nat)=>(i:Int)
def sG(n k:Nat):mh n (k+1)=mh n k++if n/2^k%2=1 then [(k:Int)] else []:=by
 simp only[mh,Qe,PH,Oa]
 congr 1
 by_cases h:n/2^k%2=1<;>simp[h]
def qN(n k:Nat): ∀m,k<=m->(∀i,k<=i->i<m->n/2^i%2=0)->mh n m=mh n k:=by
 intro m e
 induction m with
 | zero=>intro _; obtain rfl:k=0:=by omega
         rfl
 | succ m c=>
   intro h;by_cases b:k=m+1
   ·rw[b]
   rw[sG,OK (by have:=h m (by omega) (by omega);omega),P9];exact c (by omega) fun i a d=>h i a (by omega)
def GM(m x:Nat)(c:m<2^x):mh (m+2^x) (x+1)=mh m x++[(x:Int)]:=by
 rw[sG]
 have b:(m+2^x)/2^x%2=1:=by
  rw[Nat.add_div_right _ (Qg (by decide)),S9 c]
 rw[OL b]
 congr 1
 unfold mh
 congr 1
 apply QK;intro i a;have a:i<x:=by simpa using a
 have e:2^x=2^i*(2*2^(x-i-1)):=by
  rw[<-TL, <-Tb]
  congr 1
  omega
 have:(m+2^x)/2^i=m/2^i+2*2^(x-i-1):=by
  rw[e,Nat.add_mul_div_left _ _ (Qg (by decide))]
 rw[this]
 congr 1
 omega
def wU(m x i:Nat)(a:m<2^x)(hi:x<=i):m/2^i%2=0:=by
 rw[S9 (PX a (Pz (by decide) hi))]
def sH(l:List Int)(h:ku l.length (i6 l)=true): ∀k,k<=l.length-> ∃y,y<=32/\nw (l.take k)<2^y/\mh (nw (l.take k)) y=l.take k/\(k<l.length->(y:Int)<=l.getD k 0)
 |0,_=>⟨0,by omega,by simp[nw],by simp[nw,mh],fun f=>by have:=kU (dC h 0 f);omega⟩
 | k+1,f=>by
   obtain⟨y,o,e,m,a⟩:=sH l h k (by omega);have n:=kU (dC h k (by omega));have a:=a (by omega);have b:=sK l k (fun j _ g=>dC h j g) (by omega);refine⟨(l.getD k 0).toNat+1,by omega,?_,?_,fun d=> ?_⟩
   ·rw[jZ l k (by omega), <-al l k 0 (by omega),SY];omega
   ·rw[jZ l k (by omega), <-al l k 0 (by omega),GM _ _ b,PG (by omega:k<l.length)];rw[qN _ y _ (by omega) (fun i c _=>wU _ y i e c),m, <-al l k 0 (by omega)]
    congr 2
    omega
   have c:=(kU (dC h (k+1) d)).2.2;simp at c;have:l.getD k 0<l.getD (k+1) 0:=by simpa using c
   omega
def mi(l:List Int)(h:ku l.length (i6 l)=true):i' (nw l)=l:=by
 obtain⟨y,d,a,b,_⟩:=sH l h l.length (OO _);rw[Ob]at a b;have:i' (nw l)=mh (nw l) 32:=rfl;rw[this,qN _ y 32 d (fun i c _=>wU _ y i a c),b]
def sR{j:Type}(c:List UInt8)(K:List Int->Nat->Option j): ∀(vs:List Int)(pre b:List UInt8)(a:List Int),c=pre++cL vs++b->(∀v∈vs, -2147483647<=v/\v<=2147483647)->
 Ud c K vs.length pre.length a=K (a++vs) (pre++cL vs).length
 |[],pre,b,a,f,g=>by simp[Ud,cL]
 | v::vs,pre,b,a,f,g=>by
   have d:=g v (by simp);have e:cL (v::vs)=b8 4 (DM v)++cL vs:=by simp[cL]
   rw[e]at f |-;have h:=eD c pre (cL vs++b) 4 (DM v) pre.length (by rw[f];simp[O1]) rfl (by have:=uZ v d.1 d.2;omega) (by have:=uZ v d.1 d.2;omega);rw[OU,Ud,h];have:=sR c K vs (pre++b8 4 (DM v)) b (a++[v]) (by rw[f];simp[O1]) (fun x i=>g x (by simp[i]));simp only[ON,aU,Oo,zY]at this |-;rw[this];simp[O1,QY]
def sU{l:Type}(d:List UInt8)(K:List (Int×List Int)->Nat->Option l): ∀(c:List (Int×List Int))(pre a:List UInt8)(b:List (Int×List Int)),d=pre++bU c++a->
 (∀m∈c,0<=m.1/\m.1<=31/\ku m.2.length (i6 m.2)=true)->R' d K c.length pre.length b=K (b++c) (pre++bU c).length
 |[],pre,a,b,f,g=>by simp[R',bU]
 | m::c,pre,a,b,f,g=>by
   obtain⟨n,o,h⟩:=g m (by simp);have p:=kM m.2 h;have e:bU (m::c)=b8 1 m.1.toNat++b8 4 (nw m.2)++bU c:=by simp[bU]
   rw[e]at f |-;have i:=eD d pre (b8 4 (nw m.2)++bU c++a) 1 m.1.toNat pre.length (by rw[f];simp[O1]) rfl (by omega) (by omega);have j:=eD d (pre++b8 1 m.1.toNat) (bU c++a) 4 (nw m.2) (pre.length+1) (by rw[f];simp[O1]) (by simp[aU]) (by omega) (by omega);rw[OU,R',i,Oo,j];have:=sU d K c (pre++b8 1 m.1.toNat++b8 4 (nw m.2)) a (b++[m]) (by rw[f];simp[O1]) (fun x k=>g x (by simp[k]));simp only[ON,aU,Oo,mi m.2 h]at this |-;rw[show ((m.1.toNat:Nat):Int)=m.1 by omega,this];simp[O1,QY]
def wB{k:Type}(d:List UInt8)(K:List (List UInt8×Int)->Nat->Option k): ∀(c:List (List UInt8×Int))(pre a:List UInt8)(b:List (List UInt8×Int)),d=pre++pb c++a->
 (∀t∈c,t.1.length<=32/\0<=t.2/\t.2<=1099511627776)->UE d K c.length pre.length b=K (b++c) (pre++pb c).length
 |[],pre,a,b,f,g=>by simp[UE,pb]
 | t::c,pre,a,b,f,g=>by
   obtain⟨l,m,n⟩:=g t (by simp);have e:pb (t::c)=b8 2 t.1.length++t.1++b8 8 t.2.toNat++pb c:=by simp[pb]
   rw[e]at f |-;have h:=JI d pre t.1 (b8 8 t.2.toNat++pb c++a) pre.length (by rw[f];simp[O1]) rfl (by omega);have i:=eD d (pre++b8 2 t.1.length++t.1) (pb c++a) 8 t.2.toNat (pre.length+2+t.1.length) (by rw[f];simp[O1]) (by simp[aU];omega) (by omega) (by omega);rw[OU,UE,h,Oo,i];have:=wB d K c (pre++b8 2 t.1.length++t.1++b8 8 t.2.toNat) a (b++[t]) (by rw[f];simp[O1]) (fun x j=>g x (by simp[j]));simp only[ON,aU,Oo]at this |-;rw[show ((t.2.toNat:Nat):Int)=t.2 by omega,this];simp[O1,QY]
def uI{a:Type}{l:List a}{x:a}(d:a)(h:x∈l): ∃j,j<l.length/\l.getD j d=x:=by
 obtain⟨j,b,rfl⟩:=Pe h;exact⟨j,b,al l j d b⟩
structure Wa(r:Rc):Prop where
 c1:1<=r.Z5
 c2:r.Z5<=2147483647
 b1:0<=r.born
 b2:r.born<=1099511627776
 s1:0<=r.steps
 s2:r.steps<=1099511627776
 act:ku r.Z8.length (i6 r.Z8)=true
 act1:0<r.Z8.length
 vars: ∀v∈r.vars, -2147483647<=v/\v<=2147483647
 ZO:r.vars.length<=8
 mem: ∀m∈r.mem,0<=m.1/\m.1<=31/\ku m.2.length (i6 m.2)=true
 ZM:r.mem.length<=32
 Z4: ∀t∈r.timers,t.1.length<=32/\0<=t.2/\t.2<=1099511627776
 ZL:r.timers.length<=8
def vp(l:List (Int×List Int))(h:ku l.length (mo l)=true): ∀k,k<l.length->(k:Int)<=(l.getD k (0,[])).1
 | 0,a=>by
   have:=dC h 0 a;simp only[mo,OJ,OR]at this;exact this.1.1.1
 | k+1,a=>by
   have c:=vp l h k (by omega);have:=dC h (k+1) a;simp only[mo,OJ,PS,OR]at this;have b:=this.2;simp at b;have:(l.getD k (0,[])).1< (l.getD (k+1) (0,[])).1:=by simpa using b
   omega
def uw{r:Rc}(h:aW r=true):Wa r:=by
 simp only[aW,nK,aX,iB,qP,ay,jP,OJ,OR]at h;obtain⟨⟨⟨⟨⟨⟨b,e⟩,f⟩,g,i⟩,k,l⟩,d⟩,n,c⟩:=h;refine⟨b.1,b.2,e.1,e.2,f.1,f.2,g,i,?_,l,?_,?_,?_,c⟩
 ·intro v q;obtain⟨j,a,rfl⟩:=uI 0 q;have:=dC k j a;simpa only[lU,OJ,OR]using this
 ·intro m o;obtain⟨j,a,rfl⟩:=uI (0,[]) o;have:=dC d j a;simp only[mo,aX,OJ,OR]at this;exact⟨this.1.1.1,this.1.1.2,this.1.2.1⟩
 ·rcases QN 32 r.mem.length with um|hle
  ·have b:=vp r.mem d 32 um;have:=dC d 32 um;simp only[mo,OJ,OR]at this;have:=this.1.1.2;omega
  exact hle
 intro t p;obtain⟨j,a,rfl⟩:=uI ([],0) p;have:=dC n j a;simp only[jV,bT,jP,OJ,OR]at this;exact⟨this.1.1.1.1,this.1.2.1,this.1.2.2⟩
def Co(r:Rc)(h:aW r=true):RW (kb r)=some r:=by
 have R:=uw h;have y:=R.c1;have z:=R.c2;have w:=R.b1;have x:=R.b2;have S:=R.s1;have T:=R.s2;have E:=kM r.Z8 R.act;have U:=R.ZO;have I:=R.ZM;have t1:=R.ZL;have G:r.over.toNat<=1:=Bool.toNat_le r.over;obtain⟨c,b,s,ac,g,d,e,o⟩:=r;simp only at y z w x S T E U I t1 G;obtain⟨i,f⟩: ∃i,i=kb ⟨c,b,s,ac,g,d,e,o⟩:=⟨_,rfl⟩;rw[<-f];simp only[kb,kh]at f;unfold RW p3 p4 p5 p6;have J:=eD i [73,49] (b8 8 b.toNat++b8 8 s.toNat++b8 1 o.toNat++b8 4 (nw ac)++b8 1 g.length++cL g++b8 1 d.length++bU d++b8 1 e.length++pb e) 4 c.toNat 2 (by rw[f];simp[O1]) rfl (by omega) (by omega);have K:=eD i ([73,49]++b8 4 c.toNat) (b8 8 s.toNat++b8 1 o.toNat++b8 4 (nw ac)++b8 1 g.length++cL g++b8 1 d.length++bU d++b8 1 e.length++pb e) 8 b.toNat (2+4) (by rw[f];simp[O1]) (by simp[aU]) (by omega) (by omega);have L:=eD i ([73,49]++b8 4 c.toNat++b8 8 b.toNat) (b8 1 o.toNat++b8 4 (nw ac)++b8 1 g.length++cL g++b8 1 d.length++bU d++b8 1 e.length++pb e) 8 s.toNat (2+4+8) (by rw[f];simp[O1]) (by simp[aU]) (by omega) (by omega);have M:=eD i ([73,49]++b8 4 c.toNat++b8 8 b.toNat++b8 8 s.toNat) (b8 4 (nw ac)++b8 1 g.length++cL g++b8 1 d.length++bU d++b8 1 e.length++pb e) 1 o.toNat (2+4+8+8) (by rw[f];simp[O1]) (by simp[aU]) (by omega) (by omega);have N:=eD i ([73,49]++b8 4 c.toNat++b8 8 b.toNat++b8 8 s.toNat++b8 1 o.toNat) (b8 1 g.length++cL g++b8 1 d.length++bU d++b8 1 e.length++pb e) 4 (nw ac) (2+4+8+8+1) (by rw[f];simp[O1]) (by simp[aU]) (by omega) (by omega);have O:=eD i ([73,49]++b8 4 c.toNat++b8 8 b.toNat++b8 8 s.toNat++b8 1 o.toNat++b8 4 (nw ac)) (cL g++b8 1 d.length++bU d++b8 1 e.length++pb e) 1 g.length (2+4+8+8+1+4) (by rw[f];simp[O1]) (by simp[aU]) (by omega) (by omega);simp only[J,K,L,M,N,Oo];unfold p7;simp only[O,Oo];rw[mi ac R.act];have t:=sR i (fun q l=>p8 i (c.toNat:Nat) (b.toNat:Nat) (s.toNat:Nat) (decide (o.toNat=1)) ac q l) g ([73,49]++b8 4 c.toNat++b8 8 b.toNat++b8 8 s.toNat++b8 1 o.toNat++b8 4 (nw ac)++b8 1 g.length) (b8 1 d.length++bU d++b8 1 e.length++pb e) [] (by rw[f];simp[O1]) R.vars;simp only[ON,aU,OU,Q0,QE]at t;simp only[PR,Nat.reduceAdd]at t |-;rw[t];unfold p8;obtain⟨a,j⟩: ∃p,p=[73,49]++b8 4 c.toNat++b8 8 b.toNat++b8 8 s.toNat++b8 1 o.toNat++b8 4 (nw ac)++b8 1 g.length++cL g:=⟨_,rfl⟩;have H:28+(cL g).length=a.length:=by rw[j];simp[aU];omega
 rw[H];have k:i=a++b8 1 d.length++bU d++b8 1 e.length++pb e:=by rw[f,j]
 have P:=eD i a (bU d++b8 1 e.length++pb e) 1 d.length a.length (by rw[k];simp[O1]) rfl (by omega) (by omega);rw[P,Oo];have u:=sU i (fun m l=>p9 i (c.toNat:Nat) (b.toNat:Nat) (s.toNat:Nat) (decide (o.toNat=1)) ac g m l) d (a++b8 1 d.length) (b8 1 e.length++pb e) [] (by rw[k];simp[O1]) R.mem;rw[show (a++b8 1 d.length).length=a.length+1 by simp[aU]]at u;simp only[u,QE];unfold p9;have Q:=eD i (a++b8 1 d.length++bU d) (pb e) 1 e.length (a++b8 1 d.length++bU d).length (by rw[k]) rfl (by omega) (by omega);rw[Q,Oo];have v:=wB i (fun n _=>some (⟨(c.toNat:Nat),(b.toNat:Nat),(s.toNat:Nat),ac,g,d,n,decide (o.toNat=1)⟩:Rc)) e (a++b8 1 d.length++bU d++b8 1 e.length) [] [] (by rw[k];simp[O1]) R.Z4;rw[show (a++b8 1 d.length++bU d++b8 1 e.length).length=(a++b8 1 d.length++bU d).length+1 by simp[aU,QY]]at v;simp only[v,QE];have A:((c.toNat:Nat):Int)=c:=by omega
 have B:((b.toNat:Nat):Int)=b:=by omega
 have C:((s.toNat:Nat):Int)=s:=by omega
 have D:decide (o.toNat=1)=o:=by cases o<;>rfl
 rw[A,B,C,D]
def wY(r:Rc)(h:aW r=true):nM (kb r)=some r:=by
 rw[nM,Co r h,Oo,OL ⟨h,rfl⟩]
end
section
def cz.up{w w':World}{a:Addr}{n:Nat}{E:Value}(h:cz w a n E)(b:Below w.heap.size w w'):cz w' a n E:=h.below b
def NH(r:Rc)(va vv vm vt:Value)(w:World)(h:wg w w.heap.size va vv vm vt r)(aF:Addr)(hf:p' w 0 aF)(hr:aW r=false):
 Calls prog 8 #[.agg (ph r va vv vm vt)] w fun e w'=> ∃E,e= .returned (.tuple #[.slice none 0 0,E])/\Below w.heap.size w w'/\cz w' aF 2 E:=by
 have hb0:=(Oy w.heap.size w).alloc (OO _) (.cells (ph r va vv vm vt) 44);have F0:=OI (hf.below hb0);have I0:=OI (h.below hb0);have B0:=OI hb0;have R0:=OI hr;try clear hb0 hf h hr
 go_enter func8,ntmps8
 go_wp2_with fail
 refine(xG r va vv vm vt _ I0.out aF F0.out).mono ?_;rintro e w1 ⟨E,rfl,hb1,hE⟩
 have hE:cz w1 aF 1 E:=by
  rcases hE with⟨h,_⟩|⟨_,h⟩
  ·rw[R0.out]at h;cases h
  exact h
 obtain⟨t,v,rfl⟩:=hE.form;have HE:=OI hE;have B1:=OI (B0.out.trans (hb1.mono (by simp)));try clear hb1 hE
 go_wp2_with fail
 refine(vV _ _ _ _).mono ?_;rintro e w2 ⟨rfl,rfl⟩
 go_wp2_with fail
 go_ret2
 exact⟨_,rfl,B1.out.alloc B1.out.size _,HE.out.wrap _ _⟩
def bM{c d:World}{g:Nat}(e:c.grownBy d (some g))(h:g<c.heap.size): ∀b off,b<g->d.cell? ⟨b,off,none⟩=c.cell? ⟨b,off,none⟩:=fun b off f=>
 QW (a:=⟨b,off,none⟩) (e.block b (by omega) (by simp;omega))
def tU.alloc{w:World}{g:Nat}{a:List UInt8}(h:tU w g a)(o:Obj):tU (w.alloc o) g a:=by
 obtain⟨A,c,b,d,e,f,i⟩:=h.ex;exact⟨A,c,b.alloc o,d,e,(f.alloc (OO _) o).wider (by simp),i⟩
def tU.drew{w:World}{g:Nat}{a:List UInt8}(h:tU w g a):tU w.drew g a:=⟨h.ex⟩
def tU.drewN{w:World}{g:Nat}{a:List UInt8}(h:tU w g a)(n:Nat):tU (w.drewN n) g a:=⟨h.ex⟩
def tU.lt{w:World}{g:Nat}{a:List UInt8}(h:tU w g a):g<w.heap.size:=by
 obtain⟨A,c,b,_⟩:=h.ex;exact b.lt
structure Wm(w W0:World)(R g:Nat)(va vv vm vt:Value)(r:Rc):Prop where
 bel:Below w.heap.size w W0
 Z0:cU W0 R 44 (ph r va vv vm vt)
 ZW:wg W0 g va vv vm vt r
 lo:w.heap.size<=R
 rg:R<g
 gl:g<W0.heap.size
def j4{a w:World}{row:Option Nat}(h:a.grownBy w row):a.grownBy w.drew row:=⟨h.os,h.tape,h.output,h.size,h.block⟩
def jT(l:List Int):(cL l).length<=4*l.length:=by
 induction l with
 |nil=>simp[cL]
 | cons v l a=>
   simp only[cL,Q8,ON,aU,OU]at a |-;omega
def j5(l:List (Int×List Int)):(bU l).length<=5*l.length:=by
 induction l with
 |nil=>simp[bU]
 | cons v l a=>
   simp only[bU,Q8,ON,aU,OU]at a |-;omega
def tw(l:List (List UInt8×Int))(h: ∀t∈l,t.1.length<=32):(pb l).length<=42*l.length:=by
 induction l with
 |nil=>simp[pb]
 | cons v l b=>
   have c:=h v (by simp);have:=b (fun t a=>h t (by simp[a]));simp only[pb,Q8,ON,aU,OU]at this |-;omega
def ge(W:World)(X:Nat)(e:X=W.heap.size)(t:TypeId)(ps:List (Nat×Nat))(cs:Array Value)(c:cs=(ps.flatMap fun p=>[Value.int .i64 (p.1:Int),Value.int .i64 (p.2:Int)]).toArray)   :En (W.alloc (.cells cs t)) X 0 ps:=by
 subst e;intro k f;have d:=cU.new W t cs
 have a: ∀(l:List (Nat×Nat))(k:Nat)(h:k<l.length),(l.flatMap fun p=>[Value.int .i64 (p.1:Int),Value.int .i64 (p.2:Int)])[k*2]? =some (.int .i64 (l[k].1:Int))/\(l.flatMap fun p=>[Value.int .i64 (p.1:Int),Value.int .i64 (p.2:Int)])[k*2+1]? =some (.int .i64 (l[k].2:Int)):=by
  intro l
  induction l with
  |nil=>intro k h;simp at h
  | cons p l g=>
    intro k h;cases k with
    |zero=>simp
    | succ k=>
      have:=g k (by simpa using h);rw[show (k+1)*2=k*2+1+1 by omega];simpa using this
 have b:=a ps k f;refine⟨?_,?_⟩
 ·rw[PR,d.cell,c];simpa using b.1
 rw[PR,d.cell,c];simpa using b.2
def Ik(a:World):tU ((a.alloc (.cells #[.int .u8 73, .int .u8 49] 5 (2,3))).alloc (.cells #[.slice (some ⟨a.heap.size,0,none⟩) 2 2, .nilIface] 86)) (a.heap.size+1) [73,49]:=by
 refine⟨some ⟨a.heap.size,0,none⟩,2,?_,by decide,by unfold maxLen;omega,?_,fun b off e=>by cases e;omega⟩
 ·have:=cU.new (a.alloc (.cells #[.int .u8 73, .int .u8 49] 5 (2,3))) 86 #[.slice (some ⟨a.heap.size,0,none⟩) 2 2, .nilIface];rw[QQ]at this;exact this
 have:=((c0.marked a 5 #[.int .u8 73, .int .u8 49] (2,3) 1 2 rfl).alloc (by simp) (.cells #[.slice (some ⟨a.heap.size,0,none⟩) 2 2, .nilIface] 86)).wider (B':=((a.alloc (.cells #[.int .u8 73, .int .u8 49] 5 (2,3))).alloc (.cells #[.slice (some ⟨a.heap.size,0,none⟩) 2 2, .nilIface] 86)).heap.size) (by simp);exact this
def Ga{w a:World}{c f d e:Value}{r:Rc}{o1 o2:Obj}(g:Below w.heap.size w a)(i:cU a w.heap.size 44 (ph r c f d e))(hi:wg a a.heap.size c f d e r):
 Wm w ((a.alloc o1).alloc o2) w.heap.size (a.heap.size+1) c f d e r:=by
 have j:=i.lt;refine⟨(g.alloc g.size _).alloc (by simp;omega) _,(i.alloc _).alloc _,?_,OO _,by omega,by simp⟩;exact(hi.moved (fun b off h=>by rw[Rr _ _ _ (by simp;omega),Rr _ _ _ (by simpa using h)])).wider (by omega)
def Ej(r:Rc)(va vv vm vt:Value)(w:World)(h:wg w w.heap.size va vv vm vt r)(aF:Addr)(hf:p' w 0 aF)(hr:aW r=true):
 Calls prog 8 #[.agg (ph r va vv vm vt)] w fun e w'=> ∃A n c,e= .returned (.tuple #[.slice A n c, .nilIface])/\aV w' w'.heap.size 1 Vd (.slice A n c) (kb r)/\(∀b off,A=some ⟨b,off,none⟩->w.heap.size<=b)/\Below w.heap.size w w':=by
 have hb0:=(Oy w.heap.size w).alloc (OO _) (.cells (ph r va vv vm vt) 44);have F0:=OI (hf.below hb0);have I0:=OI (h.below hb0);have B0:=OI hb0;have R0:=OI hr;have M0:=OI (cU.new w 44 (ph r va vv vm vt));have RT:=OI (uw hr)
 have kc:=fun(W:World)=>(show (convert 45 45 (.slice (some ⟨W.heap.size,0,none⟩) 2 2)).run prog (W.alloc (.cells #[.int .u8 73, .int .u8 49] 5))=_ from
  Lib.run_convert_bytes_const (P:=prog) W 45 5 #[.int .u8 73, .int .u8 49] 2 2 Tryz.underlying45 Tryz.underlying5)
 try clear hb0 hf hr
 go_enter func8,ntmps8
 go_wp2_with fail
 refine(xG r va vv vm vt _ I0.out aF F0.out).mono ?_;rintro e w1 ⟨E,rfl,hb1,hE⟩
 have hE:E= .nilIface:=by
  rcases hE with⟨_,h⟩|⟨h,_⟩
  ·exact h
  rw[R0.out]at h;cases h
 subst hE;have I1:=OI (h.below (B0.out.trans (hb1.mono (by simp))));have M1:=OI (M0.out.below hb1 (by simp));have B1:=OI (B0.out.trans (hb1.mono (by simp)));try clear hb1 hE h F0 I0 B0 M0
 go_wp2_with fail
 have WR:=OI (Ik w1);have PA:=OI (Ga (o1:= .cells #[.int .u8 73, .int .u8 49] 5 (2,3)) (o2:= .cells #[.slice (some ⟨w1.heap.size,0,none⟩) 2 2, .nilIface] 86) B1.out M1.out I1.out);generalize (w1.alloc (.cells #[.int .u8 73, .int .u8 49] 5 (2,3))).alloc (.cells #[.slice (some ⟨w1.heap.size,0,none⟩) 2 2, .nilIface] 86)=W0 at*;generalize w1.heap.size+1=g at*;generalize w.heap.size=R at*;try clear I1 M1 B1 kc
 obtain⟨ch,bo,st,ac,vs,ms,ts,ov⟩:=r;simp only[ph]at*;have rc1:=RT.out.c1;have rc2:=RT.out.c2;have rb1:=RT.out.b1;have rb2:=RT.out.b2;have rs1:=RT.out.s1;have rs2:=RT.out.s2;have rv:=RT.out.ZO;have rm:=RT.out.ZM;have rt:=RT.out.ZL;have ra:=kM ac RT.out.act;simp only at rc1 rc2 rb1 rb2 rs1 rs2 rv rm rt;obtain⟨ch,rfl⟩:=QG (show 0<=ch by omega);obtain⟨bo,rfl⟩:=QG rb1;obtain⟨st,rfl⟩:=QG rs1;have ho:ov.toNat<=1:=Bool.toNat_le ov;obtain⟨m0,m1,m2,m3,m4,m5,m6,m7⟩:=c8 PA.out.Z0;have hgl:=PA.out.gl;have hRg:=PA.out.rg;obtain⟨A2,k2,e2,hl2,hm2⟩:=PA.out.ZW.vars.form;simp only at e2 hl2 hm2;subst e2;unfold maxLen at hm2
 go_upto_region 5 with(fail)
 go_cut [48] (fun _ W=>tU W g (kh ⟨ch,bo,st,ac,vs,ms,ts,ov⟩)/\W0.grownBy W (some g))
 case first=>
  go_region_held3 (fun w'=>w'.cell? ⟨R,0,none⟩=some (.int .i64 ch)/\w'.cell? ⟨R,1,none⟩=some (.int .i64 bo)/\w'.cell? ⟨R,2,none⟩=some (.int .i64 st)/\w'.cell? ⟨R,3,none⟩=some va/\w'.cell? ⟨R,4,none⟩=some (.slice A2 vs.length k2)/\w'.cell? ⟨R,7,none⟩=some (.bool ov)) (first|(go_keep;done))
   (first
    |(go_at_call 25;refine(Fv _ _).mono ?_;rintro e w' ⟨rfl,rfl⟩)
    |(go_at_call 26;refine(Ed _ ac g _ (PA.out.ZW.act.moved (w':=W0.drew) (fun _ _ _=>rfl) fun _ _ _ h=>h) RT.out.act).mono ?_;rintro e w' ⟨rfl,rfl⟩)
    |(go_at_call 24;refine(jj g [73,49] W0.heap.size 0 6 [(ch,4),(bo,8),(st,8),(ov.toNat,1),(nw ac,4),(vs.length,1)] _ (WR.out.alloc _).drew (by simp) (by omega) (ge W0 _ rfl _ _ _ rfl) (by simp) (by simp) ?_).mono ?_;(focus (intro p hp;simp at hp;rcases hp with rfl|rfl|rfl|rfl|rfl|rfl<;>simp<;>omega));rintro e w2 ⟨rfl,hw2,hG2⟩;have y: ∀off,w2.cell? ⟨R,off,none⟩=W0.cell? ⟨R,off,none⟩:=fun off=>(bM hG2 (by simp;omega) R off hRg).trans (Rr W0 _ ⟨R,off,none⟩ (by simp;omega));have y0:=(y 0).trans m0;have y1:=(y 1).trans m1;have y2:=(y 2).trans m2;have y3:=(y 3).trans m3;have y4:=(y 4).trans m4;have y7:=(y 7).trans m7;have HW2:=OI hw2;have HG2:=OI hG2;clear hw2 hG2 y))
  all_goals
   go_wp2_with fail
   go_meet
   refine⟨by simpa[kh]using HW2.out,?_⟩;exact(j4 (ce (PL W0 (some g)) _)).trans HG2.out
 case rest=>
 obtain⟨hW2,hG2⟩:=hcut;have W2:=OI hW2;have G2:=OI hG2;have y4:=(bM hG2 hgl R 4 hRg).trans m4;have y5:=OI ((bM hG2 hgl R 5 hRg).trans m5);try clear hW2 hG2
 have hbl:(kh ⟨ch,bo,st,ac,vs,ms,ts,ov⟩).length<=28:=by simp[kh,aU]
 generalize hhd:kh ⟨ch,bo,st,ac,vs,ms,ts,ov⟩=hd at*;have HD:=OI hhd;try clear hhd
 have HM:=OI (And.intro m5 m6);try clear m0 m1 m2 m3 m4 m5 m6 m7
 go_wp2_with fail
 go_loopw [53] (fun i wr=> ∃k:Nat,k<=vs.length/\i= .int .i64 k/\tU wr g (hd++cL (vs.take k))/\W0.grownBy wr (some g)) (fun i _=>vs.length-(intOf i).toNat)
 case atStart=>exact⟨0,by omega,rfl,by simpa[cL]using W2.out,G2.out⟩
 case round=>
  obtain⟨k,hk,rfl,hW,hG⟩:=hrel;have HW:=OI hW;have HG:=OI hG;by_cases hlt:k<vs.length
  ·obtain⟨A2',c2',e2',_,_,hrv⟩:=PA.out.ZW.vars.one;cases e2';obtain⟨b,off,rfl,hb,hc⟩:=ints_at hrv rfl k hlt;have hck:=(bM hG hgl b (off+k) hb).trans (hc k hlt);have hv:=RT.out.vars vs[k] (PV _);rw[al vs k 0 hlt]at hck;have HT:=OI (eM (fun v=>b8 4 (DM v)) vs k hlt);have hfl:=uZ vs[k] hv.1 hv.2
   have hvl:(hd++cL (vs.take k)).length<=100000:=by
    have:=jT (vs.take k);simp only[OZ]at this;rw[ON];omega
   have hwl:=hW.lt;generalize vs[k]=x at*;try clear hc hrv hW hG
   go_wp2_with (go_at_call 27;refine(Jp x hv.1 hv.2 _).mono ?_;rintro e w' ⟨rfl,rfl⟩)
   refine(jj g (hd++cL (vs.take k)) wr.heap.size 0 1 [(DM x,4)] _ (HW.out.alloc _) (by simp) (by omega) (ge wr _ rfl _ _ _ rfl) (by simp) hvl ?_).mono ?_
   ·intro p hp;simp at hp;subst hp;simp;omega
   rintro e w3 ⟨rfl,hw3,hG3⟩
   have W3:Hid (tU w3 g (hd++cL (vs.take (k+1)))):=OI (by
    have e:hd++cL (vs.take (k+1))=hd++cL (vs.take k)++[(DM x,4)].flatMap (fun p=>b8 p.2 p.1):=by
     unfold cL;rw[HT.out];simp
    rw[e]
    exact hw3)
   have G3:=OI ((ce HG.out _).trans hG3);try clear hw3 hG3
   go_wp2_with fail
   go_roundw
   case rel=>exact⟨k+1,by omega,by go_num,W3.out,G3.out⟩
   case measure=>simp[intOf];omega
  obtain rfl:k=vs.length:=by omega
  rw[Ob]at HW;have y5:=(bM hG hgl R 5 hRg).trans HM.out.1;have hwl:=hW.lt;obtain⟨A3,k3,e3,hl3,hm3⟩:=PA.out.ZW.mem.form;simp only at e3 hl3 hm3;subst e3;unfold maxLen at hm3
  have hvl:(hd++cL vs).length<=100000:=by
   have:=jT vs;rw[ON];omega
  try clear hW hG W2 G2
  go_wp2_with fail
  refine(jj g (hd++cL vs) wr.heap.size 0 1 [(ms.length,1)] _ (HW.out.alloc _) (by simp) (by omega) (ge wr _ rfl _ _ _ rfl) (by simp) hvl ?_).mono ?_
  ·intro p hp;simp at hp;subst hp;simp;omega
  rintro e w3 ⟨rfl,hw3,hG3⟩;have W3:Hid (tU w3 g (hd++cL vs++b8 1 ms.length)):=OI (by simpa using hw3);have hG4:=(ce HG.out _).trans hG3;have G3:=OI hG4;have y5:=(bM hG4 hgl R 5 hRg).trans HM.out.1;generalize hhd:hd++cL vs++b8 1 ms.length=hd2 at*
  have hbl2:hd2.length<=61:=by
   rw[<-hhd];have:=jT vs;simp only[ON,aU];omega
  have HD2:=OI hhd;try clear hhd hw3 hG3 hG4 HW HG
  go_wp2_with fail
  go_loopw [76] (fun i wr=> ∃k:Nat,k<=ms.length/\i= .int .i64 k/\tU wr g (hd2++bU (ms.take k))/\W0.grownBy wr (some g)) (fun i _=>ms.length-(intOf i).toNat)
  case atStart=>exact⟨0,by omega,rfl,by simpa[bU]using W3.out,G3.out⟩
  case round=>
   obtain⟨k,hk,rfl,hW,hG⟩:=hrel;have HW:=OI hW;have HG:=OI hG;have hwl:=hW.lt;by_cases hlt:k<ms.length
   ·obtain⟨b,off,rfl,hb,hc⟩:=oa PA.out.ZW.mem k hlt;obtain⟨sv,c1,c2,hsv⟩:=hc k hlt;have c1:=(bM hG hgl b (off+k*2) hb).trans c1;have c2:=(bM hG hgl b (off+k*2+1) hb).trans c2;have hbw:b<wr.heap.size:=by omega
    rw[al ms k _ hlt]at c1 hsv;obtain⟨x1,x2,x3⟩:=RT.out.mem ms[k] (PV _);have HT:=OI (eM (fun m:Int×List Int=>b8 1 m.1.toNat++b8 4 (nw m.2)) ms k hlt);have hsb:=kM ms[k].2 x3;obtain⟨A4,k4,e4,_,_⟩:=hsv.form;subst e4;have SV:=OI (hsv.moved (bM hG hgl) fun _ _ _ h=>h);have X3:=OI x3
    have hvl:(hd2++bU (ms.take k)).length<=100000:=by
     have:=j5 (ms.take k);simp only[OZ]at this;rw[ON];omega
    generalize ms[k]=mk at*;obtain⟨ms1,msl⟩:=mk;simp only at c1 x1 x2 hsb;obtain⟨ms1,rfl⟩:=QG x1;try clear hc hsv hW hG x3
    go_wp2_with fail
    go_region_held3 (fun w'=>w'.cell? ⟨wr.heap.size,0,none⟩=some (.int .i64 ms1)/\w'.cell? ⟨wr.heap.size,1,none⟩=some (.slice A4 msl.length k4)) (first|(go_keep;done))
     (first
      |(go_at_call 26;refine(Ed _ msl g _ (SV.out.moved (cZ ((((Oy _ wr).alloc (OO _) _).drew).mono (Ss hwl))) fun _ _ _ h=>h) X3.out).mono ?_;rintro e w' ⟨rfl,rfl⟩)
      |(go_at_call 24;refine(jj g (hd2++bU (ms.take k)) (wr.heap.size+1) 0 2 [(ms1,1),(nw msl,4)] _ ((HW.out.alloc _).alloc _).drew (by simp) (by omega) (ge (wr.alloc (.cells #[.int .i64 ms1, .slice A4 msl.length k4] 93)) _ (by simp) _ _ _ rfl) (by simp) hvl ?_).mono ?_;(focus (intro p hp;simp at hp;rcases hp with rfl|rfl<;>simp<;>omega));rintro e w2 ⟨rfl,hw2,hG2⟩;have y0:w2.cell? ⟨wr.heap.size,0,none⟩=some (.int .i64 ms1):=(QW (a:=⟨wr.heap.size,0,none⟩) (hG2.block wr.heap.size (by simp;omega) (by simp;omega))).trans (by simp);have y1:w2.cell? ⟨wr.heap.size,1,none⟩=some (.slice A4 msl.length k4):=(QW (a:=⟨wr.heap.size,1,none⟩) (hG2.block wr.heap.size (by simp;omega) (by simp;omega))).trans (by simp);have HW2:=OI hw2;have HG2:=OI hG2;clear hw2 hG2))
    have W3:Hid (tU w2 g (hd2++bU (ms.take (k+1)))):=OI (by
     have e:hd2++bU (ms.take (k+1))=hd2++bU (ms.take k)++[(ms1,1),(nw msl,4)].flatMap (fun p=>b8 p.2 p.1):=by
      unfold bU;rw[HT.out];simp
     rw[e]
     exact HW2.out)
    have G3:=OI ((j4 (ce (ce HG.out _) _)).trans HG2.out);try clear HW2 HG2 y0 y1
    go_wp2_with fail
    go_roundw
    case rel=>exact⟨k+1,by omega,by go_num,W3.out,G3.out⟩
    case measure=>simp[intOf];omega
   obtain rfl:k=ms.length:=by omega
   rw[Ob]at HW;have y6:=(bM hG hgl R 6 hRg).trans HM.out.2;obtain⟨A5,k5,e5,hl5,hm5⟩:=PA.out.ZW.Z4.form;simp only at e5 hl5 hm5;subst e5;unfold maxLen at hm5
   have hvl:(hd2++bU ms).length<=100000:=by
    have:=j5 ms;rw[ON];omega
   try clear hW hG W3 G3
   go_wp2_with fail
   refine(jj g (hd2++bU ms) wr.heap.size 0 1 [(ts.length,1)] _ (HW.out.alloc _) (by simp) (by omega) (ge wr _ rfl _ _ _ rfl) (by simp) hvl ?_).mono ?_
   ·intro p hp;simp at hp;subst hp;simp;omega
   rintro e w3 ⟨rfl,hw3,hG3⟩;have W3:Hid (tU w3 g (hd2++bU ms++b8 1 ts.length)):=OI (by simpa using hw3);have hG4:=(ce HG.out _).trans hG3;have G3:=OI hG4;have y6:=(bM hG4 hgl R 6 hRg).trans HM.out.2;generalize hhd:hd2++bU ms++b8 1 ts.length=hd3 at*
   have hbl3:hd3.length<=222:=by
    rw[<-hhd];have:=j5 ms;simp only[ON,aU];omega
   have HD3:=OI hhd;try clear hhd hw3 hG3 hG4 HW HG
   go_wp2_with fail
   go_loopw [103] (fun i wr=> ∃k:Nat,k<=ts.length/\i= .int .i64 k/\tU wr g (hd3++pb (ts.take k))/\W0.grownBy wr (some g)) (fun i _=>ts.length-(intOf i).toNat)
   case atStart=>exact⟨0,by omega,rfl,by simpa[pb]using W3.out,G3.out⟩
   case round=>
    obtain⟨k,hk,rfl,hW,hG⟩:=hrel;have HW:=OI hW;have HG:=OI hG;have hwl:=hW.lt;by_cases hlt:k<ts.length
    ·obtain⟨b,off,rfl,hb,hc⟩:=yt PA.out.ZW.Z4 k hlt;obtain⟨c1,c2,_⟩:=hc k hlt;have c1:=(bM hG hgl b (off+k*2) hb).trans c1;have c2:=(bM hG hgl b (off+k*2+1) hb).trans c2;have hbw:b<wr.heap.size:=by omega
     rw[al ts k _ hlt]at c1 c2;obtain⟨x1,x2,x3⟩:=RT.out.Z4 ts[k] (PV _);have HT:=OI (eM (fun t:List UInt8×Int=>b8 2 t.1.length++t.1++b8 8 t.2.toNat) ts k hlt)
     have hvl:(hd3++pb (ts.take k)).length<=90000:=by
      have:=tw (ts.take k) (fun t ht=>(RT.out.Z4 t (Ph ht)).1);simp only[OZ]at this;rw[ON];omega
     generalize ts[k]=tk at*;obtain⟨tn,ta⟩:=tk;simp only at c1 c2 x1 x2 x3;obtain⟨ta,rfl⟩:=QG x2;try clear hc hW hG
     go_wp2_with fail
     refine(Fj g (hd3++pb (ts.take k)) tn _ (HW.out.alloc _) (by omega) (by omega)).mono ?_;rintro e w4 ⟨rfl,hw4,hG4⟩;have z1:w4.cell? ⟨wr.heap.size,1,none⟩=some (.int .i64 ta):=(QW (a:=⟨wr.heap.size,1,none⟩) (hG4.block wr.heap.size (by simp) (by simp;omega))).trans (by simp);have hs4:wr.heap.size<w4.heap.size:=by have:=hG4.size;simp at this;omega
     have W4:=OI hw4;have G4:=OI ((ce HG.out _).trans hG4)
     have hvl4:(hd3++pb (ts.take k)++(b8 2 tn.length++tn)).length<=100000:=by
      simp only[ON,aU]at hvl |-;omega
     try clear hw4 hG4
     go_wp2_with fail
     refine(jj g _ w4.heap.size 0 1 [(ta,8)] _ (W4.out.alloc _) (by simp) (by omega) (ge w4 _ rfl _ _ _ rfl) (by simp) hvl4 ?_).mono ?_
     ·intro p hp;simp at hp;subst hp;simp;omega
     rintro e w5 ⟨rfl,hw5,hG5⟩
     have W5:Hid (tU w5 g (hd3++pb (ts.take (k+1)))):=OI (by
      have e:hd3++pb (ts.take (k+1))=hd3++pb (ts.take k)++(b8 2 tn.length++tn)++[(ta,8)].flatMap (fun p=>b8 p.2 p.1):=by
       unfold pb;rw[HT.out];simp
      rw[e]
      exact hw5)
     have G5:=OI ((ce G4.out _).trans hG5);try clear hw5 hG5 z1
     go_wp2_with fail
     go_roundw
     case rel=>exact⟨k+1,by omega,by go_num,W5.out,G5.out⟩
     case measure=>simp[intOf];omega
    obtain rfl:k=ts.length:=by omega
    rw[Ob]at HW;obtain⟨A9,c9,q1,q2,q3,q4,q5⟩:=HW.out.ex;obtain⟨z1,z2⟩:=q1.c2;have KE:Hid (hd3++pb ts=kb ⟨ch,bo,st,ac,vs,ms,ts,ov⟩):=OI (by rw[kb,HD.out, <-HD3.out, <-HD2.out]);have KL:Hid (aV wr wr.heap.size 1 Vd (.slice A9 (hd3++pb ts).length c9) (hd3++pb ts)):=OI (aV.of_one rfl q2 q3 (by simpa[bv]using q4))
    have KB:Hid (Below w.heap.size w wr):=OI (PA.out.bel.grown HG.out PA.out.bel.size (fun k hk=>by
     cases hk;have:=PA.out.lo;have:=PA.out.rg
     omega))
    have KO:Hid (∀b off,A9=some ⟨b,off,none⟩->w.heap.size<=b):=OI (fun b off e=>by
     have:=(q5 b off e).2;have:=PA.out.lo;have:=PA.out.rg
     omega)
    try clear hW hG W3 G3 q1 q2 q3 q4 q5
    generalize (hd3++pb ts).length=nn at*
    go_wp2_with fail
    go_quiet ((go_at_call 15;exact ax (Ij _ _)))
    go_wp2_with fail
    go_ret2
    refine⟨_,_,_,rfl,?_,KO.out,below_drewN KB.out _⟩;rw[KE.out]at KL;exact KL.out
def Ei(r:Rc)(a f b d:Value)(w:World)(h:wg w w.heap.size a f b d r)(g:Addr)(l:p' w 0 g)(m:aW r=true):
 Calls prog 8 #[.agg (ph r a f b d)] w fun e w'=> ∃v,e= .returned (.tuple #[v, .nilIface])/\aV w' w'.heap.size 1 Vd v (kb r)/\Below w.heap.size w w':=by
 refine(Ej r a f b d w h g l m).mono ?_;rintro e w' ⟨A,n,c,i,j,_,k⟩;exact⟨_,i,j,k⟩
end
section
def CU(n:Nat)(hn:n<4294967296)(w:World):Calls prog 70 #[.int .i64 n] w fun e w'=>e= .returned (.int .i64 (px n))/\w=w':=by
 have ha:bits .and .i64 (n:Int) 1=((n%2:Nat):Int):=by
  have h0: ∀y:Nat,y<9223372036854775808->(BitVec.ofInt 64 (y:Int)).toNat=y:=fun y hy=>by
   rw[Qt,Rj];exact Qw (by omega)
  show IntKind.i64.wrap ((BitVec.ofInt 64 (n:Int)&&& BitVec.ofInt 64 ((1:Nat):Int)).toNat:Int)=_;rw[BitVec.toNat_and,h0 _ (by omega),h0 _ (by omega),Qx,Nat.and_one_is_mod];omega
 by_cases h:n%2=1
 ·have HU:=OI (show px n= -(((n+1)/2:Nat):Int) by rw[px,OL h]);have e1:((n%2:Nat):Int)=1:=by omega
  rw[e1]at ha
  go_enter func70,ntmps70
  go_wp2
  go_ret
  rw[HU.out];refine⟨?_,rfl⟩;have et:((n:Int)+1).tdiv 2=(((n+1)/2:Nat):Int):=by rw[Int.tdiv_eq_ediv_of_nonneg (by omega)];omega
  show Ending.returned (.int .i64 (wrap64 (-((n:Int)+1).tdiv 2)))=_;rw[et,IntWalk.wrap64_in _ (by omega)]
 have HU:=OI (show px n=((n/2:Nat):Int) by rw[px,OK h]);have e1:((n%2:Nat):Int)=0:=by omega
 rw[e1]at ha
 go_enter func70,ntmps70
 go_wp2
 go_ret
 rw[HU.out];refine⟨?_,rfl⟩;first|rfl|(congr 2;omega)|skip
 done
def Tryz.infoInt:(prog.info? 3).map (fun i=>(i.zero,i.size,i.bytes))=some (some (.int .i64 0),1,8):=by kernel_rfl
def vk(n:Nat):(i' n).length<=32:=by
 unfold i';rw[O4];have:=Ol (fun(i:Nat)=>n/2^i%2==1) (List.range 32);simpa using this
abbrev iv(l:List Int):List Value:=l.map (Value.int .i64)
def J5(n:Nat)(hn:n<4294967296)(w:World)(hT:sy w):
 Calls prog 119 #[.int .u32 n] w fun e w'=> ∃v,e= .returned v/\w'.ownsRow w.heap.size 3 1 v (i' n).length (iv (i' n))/\Below w.heap.size w w':=by
 obtain⟨i0,hi0,hz0,hz1,hz2⟩:=TB Tryz.infoInt;have HT:=OI hT;try clear hT
 go_enter func119,ntmps119
 go_wp2
 go_loopw [0,3] (fun v0 v3 wr=> ∃(cur:Nat) (acc:List Int),cur<=n/\v0= .int .u32 cur/\wr.ownsRow w.heap.size 3 1 v3 acc.length (iv acc)/\acc++i' cur=i' n/\Below w.heap.size w wr) (fun v0 _ _=>(intOf v0).toNat)
 case atStart=>exact⟨n,[],OO _,rfl,Pr _ _ _ _,by simp,Oy _ _⟩
 case round=>
  obtain⟨cur,acc,hc,rfl,hO,hacc,hB⟩:=hrel;have HA:=OI hacc;have HO:=OI hO;have HB:=OI hB;by_cases h0:cur=0
  ·subst h0;rw[sI,P9]at hacc;subst hacc;try clear hB hO
   go_wp2
   go_ret
   exact⟨_,rfl,HO.out,HB.out⟩
  obtain⟨m,hm,hk⟩:=Lib.ctzFrom_spec 32 cur (by omega) (by omega);have hcz:Lib.ctz 32 cur=Lib.ctzFrom 32 cur:=by simp[Lib.ctz,h0]
  rw[<-hcz]at hm hk;have hs:=vj (Lib.ctz 32 cur) m hk;have ha:=K6 (Lib.ctz 32 cur) m;rw[<-hm]at hs ha
  have hlt:2^Lib.ctz 32 cur*(2*m)<cur:=by
   have:0<2^Lib.ctz 32 cur:=Qg (by decide)
   have e:cur=2^Lib.ctz 32 cur*(2*m)+2^Lib.ctz 32 cur:=by
    have:=hm;rw[Tc,RJ]at this;exact this
   omega
  have hu:bits .and .u32 (cur:Int) ((cur:Int)-1)=((2^Lib.ctz 32 cur*(2*m):Nat):Int):=by
   rw[show (cur:Int)-1=((cur-1:Nat):Int) by omega,u32_and _ _ (by omega) (by omega),ha]
  have hal:acc.length<=32:=by
   have:=Oj List.length hacc;rw[ON]at this;have:=vk n;omega
  have e0:((cur:Int) != 0)=true:=by rw[RX];omega
  have TW:=OI (HT.out.below hB);have HS:=OI hs;have HC:=OI hk;try clear hm hs ha hcz hacc hB hO hk
  generalize hkk:Lib.ctz 32 cur=k at*;generalize 2^k*(2*m)=nx at*;have hkk':=OI hkk;try clear hkk
  go_wp2_with (first
   |(go_at_call 102;refine(Kf cur h0 (by omega) _ TW.out).mono ?_;rintro e w' ⟨rfl,rfl⟩;rw[hkk'.out])
   |(at_builtin;refine bS _ rfl (.tmp 10) (.tmp 13) _ rfl w.heap.size 3 i0 _ 1 8 Tryz.underlying35 hi0 hz0 hz1 hz2 rfl (by decide) u3 acc.length (iv acc) rfl (HO.out.alloc _) (wr.heap.size+1) (some ⟨wr.heap.size,0,none⟩) 1 1 [.int .i64 k] rfl (c0.boxed wr 3 #[.int .i64 k] 1 1 rfl) (by simp[Value.oneCell']) (by unfold maxLen;omega) (by omega) (by have:=HB.out.size;simp;omega) ?_;intro v2 w2 hown2 hg2 hat2))
  have hB2:=OI (oR HB.out HB.out.size hg2 HO.out);have HO3:=OI hown2;try clear hown2 hg2 hat2
  go_wp2
  go_roundw
  case rel=>
   refine⟨nx,acc++[(k:Int)],by omega,by first|rfl|go_num,?_,?_,hB2.out⟩
   ·have:=HO3.out;simpa[iv]using this
   rw[<-HA.out,HS.out];simp
  case measure=>simp[intOf];omega
end
section
def Bh(A:Option Addr)(n c at_ wd:Nat)(w:World)(_hl:n<=140737488351232)(hw:wd=1\/wd=2\/wd=4\/wd=8)(ha:at_<=n)(hf:n<at_+wd)(ka kw:Int)(hka:ka=at_)(hkw:kw=wd)(aF:Addr)(hS:p' w 0 aF):
 Calls prog 68 #[.slice A n c, .int .i64 ka, .int .i64 kw] w fun e w'=> ∃t v,e= .returned (.tuple #[.int .u64 0, .iface t v])/\Below w.heap.size w w':=by
 subst hka hkw;have b1:lu wd=true:=by simp[lu];omega
 have hwd:wd<=8:=by omega
 have cF:=hS.1;try clear hS hw
 go_enter func68,ntmps68
 go_wp2_with (first|(go_at_call 118;refine(nO _ _).mono ?_;rintro e w' ⟨rfl,rfl⟩)|(go_at_call 29;refine(eE _ _ _ _).mono ?_;rintro e w' ⟨rfl,rfl⟩))
 go_ret2
 exact⟨_,_,rfl,(Oy _ _).alloc (OO _) _⟩
structure Fm(w:World)(g:Nat)(A:Option Addr)(n c:Nat)(bs:List UInt8)(at_:Nat)(bad:Bool):Prop where
 cells:cU w g 101 #[.slice A n c, .int .i64 at_, .bool bad]
 len:bs.length=n
 reads:c0 w w.heap.size 1 A n (bv bs)
 ne: ∀b off,A=some ⟨b,off,none⟩->b≠g
 ZS:at_<=n
 cap:n<=c
 Z6:n<=140737488351232
def Ck{w w':World}{g n:Nat}{A:Option Addr}{xs:List Value}(h:c0 w w.heap.size 1 A n xs)(d: ∀b off,A=some ⟨b,off,none⟩->b≠g)(f:w.grownBy w' (some g)):c0 w' w'.heap.size 1 A n xs:=by
 refine⟨h.1,fun k=> ?_⟩;obtain⟨b,off,e,c,i⟩:=h.2 k;refine⟨b,off,e,PX c f.size,fun j u l=> ?_⟩;exact(QW (a:=⟨b,off+j,none⟩) (f.block b c (by have:=d b off e;simp;omega))).trans (i j u l)
def Fm.turned{w w':World}{g:Nat}{A:Option Addr}{n c:Nat}{b:List UInt8}{at_ at':Nat}{a bad':Bool}(h:Fm w g A n c b at_ a)(f:w.grownBy w' (some g))(e:cU w' g 101 #[.slice A n c, .int .i64 at', .bool bad'])(d:at'<=n):Fm w' g A n c b at' bad':=
 ⟨e,h.len,Ck h.reads h.ne f,h.ne,d,h.cap,h.Z6⟩
def Fm.below{w w':World}{g:Nat}{A:Option Addr}{n c:Nat}{d:List UInt8}{at_:Nat}{a:Bool}(h:Fm w g A n c d at_ a)(b:Below w.heap.size w w'):Fm w' g A n c d at_ a:=
 ⟨h.cells.below b h.cells.lt,h.len,(h.reads.below b).wider b.size,h.ne,h.ZS,h.cap,h.Z6⟩
def mY(c:List UInt8)(at_ b:Nat)(a:Bool)(m at':Nat)(bad':Bool):Prop:=
 ((Bx c at_ b=some (m,at')/\bad'=a)\/(Bx c at_ b=none/\bad'=true))/\m<256^b/\m<=4611686018427387904
def Ma(w:World)(g:Nat)(A:Option Addr)(n c:Nat)(f:List UInt8)(at_ h:Nat)(d:Bool)(e:Ending)(w':World):Prop:=
 ∃(m b:Nat) (a:Bool),e= .returned (.int .i64 m)/\Fm w' g A n c f b a/\w.grownBy w' (some g)/\mY f at_ h d m b a
def fI(g:Nat)(A:Option Addr)(n c:Nat)(bs:List UInt8)(at_ wd:Nat)(bad:Bool)(w:World)(h:Fm w g A n c bs at_ bad)(hw:wd=1\/wd=2\/wd=4\/wd=8)(kw:Int)(hkw:kw=wd)(aF:Addr)(hS:p' w 0 aF):
 Calls prog 30 #[.pointer (some ⟨g,0,none⟩), .int .i64 kw] w (Ma w g A n c bs at_ wd bad):=by
 subst hkw;obtain⟨c1,c2,c3⟩:=h.cells.c3;have f1:=h.cells.frozen 1;have f2:=h.cells.frozen 2;have HR:=OI h;have hle:=h.ZS;have hfew:=h.Z6;have hwd:wd<=8:=by omega
 have hgl:=h.cells.lt;have HW:=OI hw;have HS:=OI hS;by_cases hf:at_+wd<=n
 ·have hv:=o0 (cut bs at_ wd);rw[jN bs at_ wd (by rw[h.len];exact hf)]at hv
  have hv64:lE (cut bs at_ wd)<18446744073709551616:=by
   have:256^wd<=256^8:=Pz (by decide) hwd;omega
  have HV:=OI hv;have HP:=OI (show Bx bs at_ wd=if lE (cut bs at_ wd)<=4611686018427387904 then some (lE (cut bs at_ wd),at_+wd) else none by rw[Bx,h.len];simp[hf]);have HX:=OI (fun W=>li A n c bs at_ wd W h.len);try clear h hv hw hS
  generalize hx:lE (cut bs at_ wd)=x at*;have HXX:=OI hx;try clear hx
  by_cases hb:x<=4611686018427387904
  ·have k1:=OI (show mY bs at_ wd bad x (at_+wd) bad from⟨.inl ⟨by rw[HP.out,OL hb],rfl⟩,HV.out,hb⟩);have k2:=OI (aZ (p:=⟨g,1,none⟩) (PL w (some g)) (.inl rfl) (.int .i64 ((at_+wd:Nat):Int)));have k3:=OI (HR.out.turned k2.out (at':=at_+wd) (bad':=bad) (by simpa using HR.out.cells.put 1 (.int .i64 ((at_+wd:Nat):Int))) (by omega))
   go_enter func30,ntmps30
   go_wp2
   go_quiet ((go_at_call 68;exact ax (HX.out _ (HR.out.reads.drewN _) hfew HW.out hf _ _ rfl rfl)))
   go_wp2
   go_ret
   exact⟨x,at_+wd,bad,rfl,k3.out.below (below_drewN (Oy _ _) _),my k2.out _,k1.out⟩
  have k1:=OI (show mY bs at_ wd bad 0 at_ true from⟨.inr ⟨by rw[HP.out,OK hb],rfl⟩,Qg (by decide),by omega⟩);have k2:=OI (aZ (p:=⟨g,2,none⟩) (PL w (some g)) (.inl rfl) (.bool true));have k3:=OI (HR.out.turned k2.out (at':=at_) (bad':=true) (by simpa using HR.out.cells.put 2 (.bool true)) hle)
  go_enter func30,ntmps30
  go_wp2
  go_quiet ((go_at_call 68;exact ax (HX.out _ (HR.out.reads.drewN _) hfew HW.out hf _ _ rfl rfl)))
  go_wp2
  go_ret
  exact⟨0,at_,true,rfl,k3.out.below (below_drewN (Oy _ _) _),my k2.out _,k1.out⟩
 have k1:=OI (show mY bs at_ wd bad 0 at_ true from⟨.inr ⟨by rw[Bx,h.len,OK (by omega)],rfl⟩,Qg (by decide),by omega⟩);try clear h hw hS
 go_enter func30,ntmps30
 go_wp2
 go_region_held3 (fun w'=>w'.cell? ⟨g,0,none⟩=some (.slice A n c)/\w'.cell? ⟨g,1,none⟩=some (.int .i64 at_)) (first|(go_keep;done))
  (first|(go_at_call 68;refine(Bh A n c at_ wd _ hfew HW.out hle (by omega) _ _ rfl rfl aF (HS.out.below ((Oy _ w).drew))).mono ?_;rintro e w2 ⟨t2,v2,rfl,hb2⟩;have R2:=HR.out.below ((Oy _ w).drew.trans hb2);obtain⟨d1,d2,d3⟩:=R2.cells.c3;have d4:=R2.cells.frozen 2;have HR2:=OI R2;have HB2:=OI hb2;clear R2 hb2))
 have k2:=OI (aZ (p:=⟨g,2,none⟩) (fV (j4 (PL w (some g))) HB2.out) (.inl rfl) (.bool true));have k3:=OI (HR2.out.turned (aZ (p:=⟨g,2,none⟩) (PL w2 (some g)) (.inl rfl) (.bool true)) (at':=at_) (bad':=true) (by simpa using HR2.out.cells.put 2 (.bool true)) hle)
 go_wp2
 go_ret
 exact⟨0,at_,true,rfl,k3.out,k2.out,k1.out⟩
end
end Go.Proofs.YtfcdkaolcdglmaaGreatDoor
