/- The document's word on a step: parts. -/
import Derived.Test.YtfhkmjbjafeckaaGreatDoorP29
import Derived.Test.YtfhkmjbjafeckaaGreatDoorP28
set_option maxRecDepth 100000
set_option maxHeartbeats 16000000
set_option linter.unusedSimpArgs false
set_option linter.defProp false
namespace Go.Proofs.YtfhkmjbjafeckaaGreatDoor
open Go.Proofs.Tryz
open Go.RowKit
section
def vY(env:b8)(c:aq)(h:ch c)(hs:g7 c)(act gone:List Int)(mem:List ds)(hla:act.length<=4000)(hlg:gone.length<=1000000)(hlb:tI c act=true)(hgo: ∀x∈gone,x∈act)(hm:bc c mem=true):ip prog env 274 [1001,1006] (fun _=>false) (fun g=>[aG c, .row 1001 (g 1001), .row 1006 (g 1006),fk mem]) (fun _=>[(1001,⟨1,act.map aa,3,true⟩),(1006,⟨1,gone.map aa,3,true⟩)]) (fun _=>[(1001,⟨1,act.map aa,3,true⟩),(1006,⟨1,gone.map aa,3,true⟩)]) (fun _=>fk (na c act gone mem)):=by
 have f0:=ay env c hs;have hfew:=h.Z6;have hok:=KF hm;have hml:=yp hok;have f1:=EE env mem (by omega) (fun m hm'=>by have:=(so h hm m hm').2;omega);have S:=cx hlb;show ip _ _ _ _ _ _ _ _ fun _=>fk (u0 c act gone mem gone.length);unfold aG at f0 |-;refine qi func274 call274 ntmps274 results274 ?_;intro l esc hesc;obtain⟨b,d⟩:=RC hesc;have F:=ai b d;repeat refine wc f0 f1 ?_
 refine fG (dd.frozen 21 10 ⟨2,mem.map fe,146,true⟩ rfl (Nf 1) (by simp only[go_sem]) (by simp only[go_sem])) ?_;refine aH (D:=Nat) (fun j l=>[(0, .ref 9 [ct c] 0 0),(1, .row 1001 (l 1001)),(9, .loc 9 (l 9) 0 0),(10,fk (u0 c act gone mem j)),(22, .row 1006 (l 1006)),(23,I gone.length),(24,I j)]) (fun _ _=>[(9,⟨5,[aA c],26,false⟩),(1001,⟨1,act.map aa,3,true⟩),(1006,⟨1,gone.map aa,3,true⟩)]) (fun j t f=>(j<=gone.length/\T4 c (u0 c act gone mem j))/\(t 1001=l 1001/\t 1006=l 1006)/\f 1001=false/\f 1006=false) (fun j=>gone.length-j) 0 ?_ ?_ ?_ ?_
 ·exact⟨⟨NG _,hok⟩,by simp only[go_sem,NH],by simp only[go_sem,b,d,NH]⟩
 ·(simp only[go_sem,F])
  try rfl
 ·have F:=aA.eq_1
  (simp only[go_sem,F])
  try rfl
 try clear b d
 rintro j ws esc ⟨⟨hj,hO⟩,⟨C,E⟩,b,d⟩;by_cases G:j<gone.length
 ·obtain⟨x,hx⟩:=gE G;have q1:=it G;have q2:=aD G (by omega);have hxa:=hgo x (Mv hx);obtain⟨s0,hs0,Z, -, -,H, -⟩:=S.of hxa;obtain⟨k,s,rfl,Y,hat⟩:=cS Z;obtain rfl:s0=s:=by rw[hs0]at hat;cases hat;rfl
  have hk:=(Mr.1 Y).1;have q3:((k:Nat):Int)< (c.Z9.length:Int):=by omega
  have f2:=Ch env c h k;have Q:=cA hs0;have B:=DD (c:=c) (act:=act) (o:=mem) hx;unfold aG at f2;generalize u0 c act gone mem j=o at*;by_cases W:s0.kind=1
  ·have b1:(s0.kind==1)=true:=by simp[W]
   rw[b1]at Q;rw[Q,Mw rfl]at B
   have hML: ∀y∈y' c (k:Int),∃N,c.Z9[y]? =some N/\N.parent=(k:Int)/\aU N=true:=fun y L=>by
    obtain⟨N,e1,_,e3,e4⟩:=gW.1 L;exact⟨N,e1,e3,e4⟩
   have hMl:(y' c (k:Int)).length<=1000000:=by
    unfold y';have:=NS (Kx c (k:Int)) (List.range c.Z9.length);rw[Po]at this;omega
   have f3:=Ax env c h.toRight act hla (k:Int)
   have f4:=H6 env c h (fl c act (k:Int)) (NK (NS ..) hla) (fun y L=>by
    have L:=(ND.1 L).1;obtain⟨_,_,Z,_⟩:=S.of L
    exact Z)
   have f5:=bf env c h (k:Int);rw[Mw (.inr Z)]at f5;have H:=H W;generalize y' c (k:Int)=M at*;unfold aG at f3 f4 f5;have F:=ql Uv Uw hx q1 q2 q3 Y b1 jO b d;repeat refine fc f2 ?_
   refine aH (D:=Nat) (fun m l=>[(0, .ref 9 [ct c] 0 0),(1, .row 1001 (l 1001)),(9, .loc 9 (l 9) 0 0),(10,fk (rn c act k o M m)),(12,I k),(22, .row 1006 (l 1006)),(23,I gone.length),(24,I j),(37, .row 37 (l 37)),(38,I M.length),(39,I m)]) (fun _ _=>[(9,⟨5,[aA c],26,false⟩),(37,⟨1,M.map aB,3,true⟩),(1001,⟨1,act.map aa,3,true⟩),(1006,⟨1,gone.map aa,3,true⟩)]) (fun m t f=>(m<=M.length/\T4 c (rn c act k o M m))/\(t 1001=l 1001/\t 1006=l 1006)/\f 1001=false/\f 1006=false) (fun m=>M.length-m) 0 ?_ ?_ ?_ ?_
   ·exact⟨⟨NG _,hO⟩,by simp only[go_sem,C,E,NH],by simp only[go_sem,b,d,NH]⟩
   ·(simp only[go_sem,F])
    try rfl
   ·have F:=gb Uv b d
    (simp only[go_sem,F])
    try rfl
   try clear b d C E
   rintro m us es ⟨⟨hml2,w⟩,⟨C,E⟩,b,d⟩;by_cases n:m<M.length
   ·obtain⟨y,L⟩:=gE n;have p1:=it n;have p2:=aD n (by omega);obtain⟨N,J,hpar,hmy⟩:=hML y (Mv L);have hyl:=(Mr.1 J).1;have p3:((y:Nat):Int)< (c.Z9.length:Int):=by omega
    have A:=Ab (c:=c) (act:=act) (i:=(k:Int)) (o:=o) L;have P:sl c act (k:Int) y=if N.kind=5 then k5 c (fl c act (k:Int)) else mO c act (k:Int):=by unfold sl;rw[J]
    have T:=Kr (v:=sl c act (k:Int) y) hyl w;rw[<-A]at T;have hz2:=M6 h.toRight w;have hl2:=yp w;generalize rn c act (k:Int) o M m=R at*;by_cases O:N.kind=5
    ·have b5:(N.kind==5)=true:=by simp[O]
     rw[Mw O]at P;rw[P]at A;have f6:b7 prog env 299 [fk R, .agg [I (y:Int), .seq 1 ((k5 c (fl c act (k:Int))).map aa)]] (.own 146 2 ((lK R ((y:Int),k5 c (fl c act (k:Int)))).map fe)):=FC env R ((y:Int),k5 c (fl c act (k:Int))) w.1 hz2 ⟨by simp only;omega,by simp only;omega⟩ (by omega);generalize k5 c (fl c act (k:Int))=V at*;generalize fl c act (k:Int)=U at*;refine eA ?_;have F:=ql Uv Uw Ux L J p1 p2 p3 b5 b d;repeat refine st ?_
     refine lL (f3.lend (al (fun _=>rfl) _)) ?_;repeat refine wc f4 f6 ?_
     refine⟨_,dd.frozen 76 10 ⟨2,(lK R ((y:Int),V)).map fe,146,true⟩ rfl (Nf 1) (by simp only[go_sem]) (by simp only[go_sem]),m+1,⟨⟨n,T⟩,by simp only[go_sem,C,E,NH],by simp only[go_sem,b,d,NH]⟩,?_,?_,by omega⟩
     ·have F:=gb A b d
      (simp only[go_sem,F])
      try rfl
     have F:=gb Uv b d;exact qe
    have b5:(N.kind==5)=false:=by simpa using O
    rw[Mt O]at P;rw[P]at A
    have hkn:av c (k:Int) true≠[]:=by
     have:=(pR h J hmy).2.2.1;rw[hpar]at this;exact this
    have hkf:=bE h.toRight (k:Int) true;obtain⟨p,a,hp,hlk,X⟩:=JR (H hkn);rw[hlk]at A;have f6:b7 prog env 299 [fk R, .agg [I (y:Int), .seq 1 [aB a]]] (.own 146 2 ((lK R ((y:Int),[(a:Int)])).map fe)):=FC env R ((y:Int),[(a:Int)]) w.1 hz2 ⟨by simp only;omega,by simp only;omega⟩ (by omega);generalize av c (k:Int) true=K at*;refine eA ?_;have F:=ql Uv Uw Ux L J p1 p2 p3 b5 b d;repeat refine fc f5 ?_
    refine aH (D:=Nat) (fun q l=>[(0, .ref 9 [ct c] 0 0),(1, .row 1001 (l 1001)),(9, .loc 9 (l 9) 0 0),(10,fk R),(12,I k),(14,I y),(15, .loc 15 (l 15) 0 0),(22, .row 1006 (l 1006)),(23,I gone.length),(24,I j),(37, .row 37 (l 37)),(38,I M.length),(39,I m),(61, .row 61 (l 61)),(62,I K.length),(63,I q)]) (fun q _=>[(9,⟨5,[aA c],26,false⟩),(15,⟨2,[[I y,pB a p q]],146,false⟩),(37,⟨1,M.map aB,3,true⟩),(61,⟨1,K.map aB,3,true⟩),(1001,⟨1,act.map aa,3,true⟩),(1006,⟨1,gone.map aa,3,true⟩)]) (fun q t f=>(q<=K.length/\f 15=false)/\(t 1001=l 1001/\t 1006=l 1006)/\f 1001=false/\f 1006=false) (fun q=>K.length-q) 0 ?_ ?_ ?_ ?_
    ·exact⟨⟨NG _,by simp only[go_sem]⟩,by simp only[go_sem,C,E,NH],by simp only[go_sem,b,d,NH]⟩
    ·(simp only[go_sem,F])
     try rfl
    ·have F:=gb Uv b d
     (simp only[go_sem,F])
     try rfl
    try clear b d C E
    rintro q xs fs ⟨⟨hq,e5⟩,⟨C,E⟩,b,d⟩;by_cases r:q<K.length
    ·obtain⟨u,hu⟩:=gE r;have r1:=it r;have r2:=aD r (by omega);have g0:=bL env act (u:Int) (by omega);rw[X q u hu]at g0;by_cases hqp:q=p
     ·subst hqp;rw[Ni rfl]at g0;obtain rfl:u=a:=by rw[hp]at hu;cases hu;rfl
      have c1:pB u q q=cy:=by unfold pB;rw[Mw (NC _)]
      have c2:pB u q (q+1)= .seq 1 [aB u]:=by unfold pB;rw[Mt (by omega)]
      refine eA ?_;have F:=qr Uv Ux hu r1 r2 c1 e5 b d;repeat refine st ?_
      refine lL (g0.lend rfl) ?_;repeat refine st ?_
      refine⟨_,dd.sees [(71,xs 71+1, .seq 1 [aB u])] (fun z Z=> ?_),q+1,⟨⟨r,?_⟩,?_,?_⟩,?_,?_,by omega⟩
      ·rw[NO.1 Z];refine⟨by simp only[go_sem],⟨1,[aB u],3,true⟩,by simp only[go_sem,aB],Nf 0,rfl,rfl⟩
      ·simp only[kk,go_sem,e5,QH,Qx]
      ·simp only[kk,go_sem,C,E,NH]
      ·simp only[kk,go_sem,b,d,QH,Qx,NH]
      ·have F:=ai b d;exact qe
      have F:=g9 Uv Ux c2 b d;exact qe
     rw[N7 hqp]at g0
     have c1:pB a p (q+1)=pB a p q:=by
      unfold pB;by_cases e:q<=p
      ·rw[Mw (by omega),Mw e]
      rw[Mt (by omega),Mt e]
     have F:=n4 Uv Ux hu r1 r2 e5 b d;repeat refine st ?_
     refine lL (g0.lend rfl) ?_;repeat refine st ?_
     refine⟨q+1,⟨⟨r,by simp only[go_sem,e5]⟩,by simp only[go_sem,C,E,NH],by simp only[go_sem,b,d,NH]⟩,?_,?_,by omega⟩
     ·exact qe
     have F:=g9 Uv Ux c1 b d;exact qe
    obtain rfl:q=K.length:=by omega
    have r1:=nl K.length
    have c1:pB a p K.length= .seq 1 [aB a]:=by
     unfold pB;rw[Mt (by have:=(Mr.1 hp).1;omega)]
    have F:=n4 Uv Ux r1 c1 p2 e5 b d;repeat refine fc f6 ?_
    refine⟨_,dd.frozen 76 10 ⟨2,(lK R ((y:Int),[(a:Int)])).map fe,146,true⟩ rfl (Nf 1) (by simp only[go_sem]) (by simp only[go_sem]),m+1,⟨⟨n,T⟩,by simp only[go_sem,C,E,NH],by simp only[go_sem,b,d,NH]⟩,?_,?_,by omega⟩
    ·have F:=gb A b d
     (simp only[go_sem,F])
     try rfl
    have F:=gb Uv b d;exact qe
   obtain rfl:m=M.length:=by omega
   have p1:=nl M.length;rw[<-B]at w;have F:=hU p1 q2 b d;repeat refine st ?_
   refine⟨j+1,⟨⟨G,w⟩,by simp only[go_sem,C,E,NH],by simp only[go_sem,b,d,NH]⟩,?_,?_,by omega⟩
   ·have F:=gb B b d;exact qe
   have F:=gb Uv b d;exact qe
  have b1:(s0.kind==1)=false:=by simpa using W
  rw[b1]at Q;rw[Q,Mt Nc]at B;rw[<-B]at hO;have F:=ql Uv Uw hx q1 q2 q3 Y b1 jO b d;repeat refine fc f2 ?_
  refine⟨j+1,⟨⟨G,hO⟩,by simp only[go_sem,C,E,NH],by simp only[go_sem,b,d,NH]⟩,?_,?_,by omega⟩
  ·have F:=gb B b d;exact qe
  have F:=gb Uv b d;exact qe
 obtain rfl:j=gone.length:=by omega
 have q1:=nl gone.length;have F:=g9 q1 b d C E;repeat refine st ?_
 exact rI
def wC(env:b8)(o p:Addr)(z:fU env o p)(c:aq)(h:ch c)(s:g7 c)(act gone:List Int)(D:act.length<=4000)(q:gone.length<=1000000)(mem:List ds)(r:mem.length<=1000000)(C: ∀m∈mem,cU m.2.length 8)(y:tI c act=true)(A:bc c mem=true)(k: ∀x∈gone,x∈act):ip prog env 238 [1001,1006] (fun _=>false) (fun g=>[aG c, .row 1001 (g 1001), .row 1006 (g 1006),fk mem]) (fun _=>[(1001,⟨1,act.map aa,3,true⟩),(1006,⟨1,gone.map aa,3,true⟩)]) (fun _=>[(1001,⟨1,act.map aa,3,true⟩),(1006,⟨1,gone.map aa,3,true⟩)]) (fun _=> .tuple [fk (na c act gone mem),h9]):=by
 have f0:=ck env o p z c h s act (by omega);have f2:=qP env o p z c h s mem r C;have f4:=vY env c h s act gone mem D q y k A;unfold vx at f0;unfold KT at f2;rw[y]at f0;rw[A,Mw rfl]at f2;simp only[Nt]at f0;have f0:=f0.lend rfl;unfold aG at f0 f2 f4 |-;refine qi func238 call238 ntmps238 results238 ?_;intro e f i;obtain⟨a,b⟩:=RC i;have F:=ai a b;repeat refine st ?_
 refine lL f0 ?_;repeat refine fc f2 ?_
 refine lq gone.length (by omega) (fun j e=>[(0, .ref 9 [ct c] 0 0),(1, .row 1001 (e 1001)),(2, .row 1006 (e 1006)),(3,fk mem),(25, .row 1006 (e 1006)),(26,I gone.length),(27,I j)]) (fun _ _=>[(1001,⟨1,act.map aa,3,true⟩),(1006,⟨1,gone.map aa,3,true⟩)]) (fun j n d=>(n 1001=e 1001/\n 1006=e 1006)/\d 1001=false/\d 1006=false) ⟨by simp only[go_sem,NH],by simp only[go_sem,a,b,NH]⟩ ?_ ?_
 ·try clear a b
  rintro j G f l t E ⟨⟨u,v⟩,a,b⟩;obtain⟨x,B⟩:=gE l;have w:=bL env act x (by omega);rw[Mx.2 (k x (Mv B))]at w;have F:=g9 B t E a b;repeat refine st ?_
  refine lL (w.lend rfl) ?_;repeat refine st ?_
  exact qn (j+1) ⟨l,by simp only[go_sem,u,v,NH],by simp only[go_sem,a,b,NH]⟩
 try clear a b
 rintro G f t ⟨⟨u,v⟩,a,b⟩;have F:=g9 t a b u v;repeat refine st ?_
 refine iL [(1001,1001),(1006,1006)] f4 ?_;repeat refine st ?_
 exact rI
end
section
end
section
def EZ(env:b8)(d e:Addr)(p:fU env d e)(c:aq)(h:ch c)(b:g7 c)(act:List Int)(j:act.length<=1000000)(k:Nat)(t:tR)(l:c.trans[k]? =some t)(o:tI c act=true)(f: ¬t.target<0):
 ip prog env 235 [1001,35] (fun i=>i==35) (fun g=>[aG c, .row 1001 (g 1001),I k]) (fun _=>[(1001,⟨1,act.map aa,3,true⟩)]) (fun _=>[(1001,⟨1,act.map aa,3,true⟩),(35,⟨1,(fj c act t).map aa,3,true⟩)]) (fun g=> .tuple [.row 35 (g 35),h9]):=by
 have f0:=ck env d e p c h b act j;have f1:=o6 env c b k t l;have f2:=nU env c h.toRight b t (h.src l).1;have f3:=(Bi env c h.toRight act j (ns c t.src t.target)).lend (al (fun _=>rfl) _);unfold vx at f0;rw[o]at f0;simp only[Nt]at f0;have f0:=f0.lend rfl;unfold fj;rw[Mt f];unfold ax at f1 f2;unfold aG at f0 f1 f2 f3 |-;generalize (L7 c act (ns c t.src t.target)).reverse=R at*;refine qi func235 call235 ntmps235 results235 ?_;intro q n a;have m:=a 1001 (by simp);have F:=ai f m;repeat refine st ?_
 refine lL f0 ?_;repeat refine wc f1 f2 ?_
 refine lL f3 ?_;repeat refine st ?_
 exact rI
/-! A step in which nothing is done: the chart of awake -/
end
section
def vw(env:b8)(G:List Int)(a:G.length<=1000000)(i:Int):b7 prog env 237 [I i, .ref 1 [[.seq 1 (G.map aa)]] 0 0] (B (G.contains i)):=by
 have f0:=bL env G i a;refine qf func237 call237 ntmps237 results237 ?_;repeat refine jJ f0 ?_
 exact oj
def gG{c:aq}(h:ch c)(act:List Int)(t:tR):(fj c act t).length<=32:=by
 unfold fj;split
 ·simp
 rw[Ol];unfold L7;exact NK (NS ..) (by rw[am];exact cW h.toRight act)
def oM(env:b8)(j k:Addr)(n:fU env j k)(c:aq)(h:ch c)(p:g7 c)(act:List Int)(o:act.length<=1000000)(m:tI c act=true)(a b:Nat)(q:a<c.trans.length)(l:b<c.trans.length):b7 prog env 193 [aG c,cf act,I a,I b] (B (bg c act a b)):=by
 obtain⟨g,e⟩:=gE q;obtain⟨d,f⟩:=gE l;have f0:=xz env j k n c h p act o a g e m;have f1:=xz env j k n c h p act o b d f m;have r:=gG h act g;have s:=gG h act d;have f2:=ko env (fj c act g) (fun i=>(fj c act d).contains i) 237 [[.seq 1 ((fj c act d).map aa)]] (fun i=>vw env (fj c act d) (by omega) i) (by omega);unfold bg;rw[dC e,dC f];generalize fj c act g=A at*;generalize fj c act d=C at*;unfold aG at f0 f1 |-;refine qf func193 call193 ntmps193 results193 ?_;repeat refine vP f0 f1 ?_
 refine Se f2 ?_;repeat refine m9 ?_
 exact oj
def Bp{c:aq}{act:List Int}{l:List Nat}{n k:Nat}(b:k∈l)(h:lk c act n k=false):la c act l n=l:=by
 unfold la;rw[Mt];intro a;rw[Mz.1 a k b]at h;cases h
def Ic(env:b8)(H J:Addr)(R:fU env H J)(c:aq)(h:ch c)(W:g7 c)(x:nw)(d:Int)(O:H' c x d)(l:List Nat)(Z:l.length<=1000)(z: ∀n∈l,n<c.trans.length)(n:Nat)(A:n<c.trans.length):
 b7 prog env 137 [.ref 15 [Sn c x d] 0 0, .seq 1 (l.map aB),I n] (.seq 1 ((la c x.1 l n).map aB)):=by
 have M:=h.Z6;have f0:=fun k z=>oM env H J R c h W x.1 (by have:=O.act;omega) O.lg k n z A;have f1:=bQ env c;have f2:=fun i k=>fV env c h.toRight i k;obtain⟨G,q⟩:=gE A;have P:=it A;unfold aQ at f1 f2;unfold aG at f0 f1;refine qf func137 call137 ntmps137 results137 ?_;repeat refine m9 ?_
 refine ao 7 7 3 1 ?_;refine T1 (D:=Nat) (fun j X=>[(0, .ref 15 [Sn c x d] 0 0),(1, .seq 1 (l.map aB)),(2,I n),(7, .row 7 (X 7)),(10, .seq 1 (l.map aB)),(11,I l.length),(12,I j)]) (fun j _=>[(7,⟨1,((l.take j).filter fun k=> !bg c x.1 k n).map aB,3,true⟩)]) (fun j _ s=>(j<=l.length/\(l.take j).all (lk c x.1 n)=true)/\s 7=false) (fun j=>l.length-j) 0 ⟨⟨NG _,rfl⟩,rfl⟩ ?_;rintro j ws s ⟨⟨Y,f⟩,r⟩;have S:((l.take j).filter fun k=> !bg c x.1 k n).length<=l.length:=NK (NS ..) (by rw[NJ];omega);have y:cU (((l.take j).filter fun k=> !bg c x.1 k n).length+1) 8:=aC (by omega) (by omega);by_cases m:j<l.length
 ·obtain⟨k,g⟩:=gE m;have v:=Mv g;have o:=z k v;obtain⟨E,p⟩:=gE o;have w:=it m;have B:=aD m (by omega);have C:=it o;have f3:=f0 k o;have f4:=f2 E.src G.src;have N:=bV g
  have e:((l.take (j+1)).filter fun k=> !bg c x.1 k n)=((l.take j).filter fun k=> !bg c x.1 k n)++if bg c x.1 k n=true then [] else [k]:=by
   rw[N,N5]
   congr 1
   cases U:bg c x.1 k n<;>simp[U]
  have a:lk c x.1 n k=(!bg c x.1 k n||a7 c E.src G.src):=by unfold lk;rw[dC p,dC q]
  have u: ∀b,lk c x.1 n k=b->(l.take (j+1)).all (lk c x.1 n)=b:=fun b Q=>by rw[N,QT,f];simp[Q]
  cases L:bg c x.1 k n with
  | false=>
    rw[L]at f3 e a;simp only[NU,OA]at e;have F:=n4 UV Ux g w B C y r;repeat refine fc f3 ?_
    refine⟨j+1,⟨⟨m,u _ (by rw[a];rfl)⟩,by simp only[go_sem,r]⟩,?_,?_,by omega⟩
    ·exact qe
    have F:=gb Ux e @NA.{0,0};exact qe
  | true=>
    rw[L]at f3 e a;simp only[Nt,OP]at e;simp only[Oi,Oj]at a;cases t:a7 c E.src G.src with
    | true=>
      rw[t]at f4 a;have F:=ql UV Uy Ux g p q w B C P r;repeat refine Sx f1 f3 f4 ?_
      refine⟨j+1,⟨⟨m,u _ a⟩,by simp only[go_sem,r]⟩,?_,?_,by omega⟩
      ·exact qe
      have F:=ai Ux e;exact qe
    | false=>
      rw[t]at f4 a;rw[Bp v a];have F:=ql UV Uy Ux g p q w B C P r;exact An f1 f3 f4
 obtain rfl:j=l.length:=by omega
 have w:=nl l.length;rw[NR]at f y;have V:la c x.1 l n=(l.filter fun k=> !bg c x.1 k n)++[n]:=by unfold la;rw[Mw f]
 have T:(la c x.1 l n).map aB=((l.filter fun k=> !bg c x.1 k n).map aB)++[[I (n:Int)]]:=by rw[V,NA];rfl
 rw[T,NR];generalize (l.filter fun k=> !bg c x.1 k n)=K at*;have F:=hU Ux w y r;repeat refine st ?_
 refine fG (dd.frozen 7 6 ⟨1,K.map aB++[[I (n:Int)]],3,true⟩ rfl (Nf 0) (by simp only[go_sem]) (by simp only[go_sem])) ?_;exact aR
def DM(x:nw):Rc:=⟨0,0,0,x.1,x.2.1,x.2.2.1,x.2.2.2.1,x.2.2.2.2⟩
def yz(x:nw):iu (DM x)=hP x:=rfl
def Ga(env:b8)(a b:Addr)(i:fU env a b)(c:aq)(h:ch c)(n:g7 c)(x:nw)(f:If (DM x))(j: ∀t∈x.2.2.2.1,t.1.length<=9223372036854775807)(e: ∀m∈x.2.2.1,cU m.2.length 8)(o:List UInt8)(d:Int)(l:bG c (DM x)=true)(k:x.2.2.2.2=false)(g:aL d=true):b7 prog env 133 [Sg o,aG c, .agg (hP x),I d] h9:=by
 have f0:=tB env a b i c h n (DM x) f j e;unfold tN at f0;rw[Mw l,yz]at f0;have f1:=dH env d;rw[g]at f1;unfold aG hP at f0 |-;refine qf func133 call133 ntmps133 results133 ?_;have F:=k;exact mw f0 f1
end
section
def BA(env:b8)(b d:Addr)(m:fU env b d)(c:aq)(h:ch c)(e:g7 c)(act:List Int)(n:act.length<=1000000)(k:Nat)(t:tR)(o:c.trans[k]? =some t)(l:tI c act=true)(j:t.target<0):
 ip prog env 235 [1001] (fun _=>false) (fun g=>[aG c, .row 1001 (g 1001),I k]) (fun _=>[(1001,⟨1,act.map aa,3,true⟩)]) (fun _=>[(1001,⟨1,act.map aa,3,true⟩)]) (fun _=> .tuple [cy,h9]):=by
 have f0:=ck env b d m c h e act n;have f1:=o6 env c e k t o;unfold vx at f0;rw[l]at f0;simp only[Nt]at f0;have f0:=f0.lend rfl;unfold ax at f1;unfold aG at f0 f1 |-;refine qi func235 call235 ntmps235 results235 ?_;intro p i a;have f:=a 1001 (by simp);have F:=ai j f;repeat refine st ?_
 refine lL f0 ?_;repeat refine fc f1 ?_
 exact rI
def xO{c:aq}{act:List Int}{ts:List Nat}{j n:Nat}{t:tR}(a:ts[j]? =some n)(b:c.trans[n]? =some t):dg c act (ts.take (j+1))=dg c act (ts.take j)++fj c act t:=by
 unfold dg;rw[bV a,Ox];simp[dC b]
def sG{c:aq}{mem:List ds}{ts:List Nat}{j n:Nat}{t:tR}(a:ts[j]? =some n)(b:c.trans[n]? =some t):toR c mem (ts.take (j+1))=toR c mem (ts.take j)++m6 c t mem:=by
 unfold toR;rw[bV a,Ox];simp[dC b]
def xy{c:aq}{d now:Int}{r:cD}{l:List Nat}{j n:Nat}{t:tR}(b:l[j]? =some n)(e:c.trans[n]? =some t):dX c d now r (l.drop j)=match l' c d now r t.Z0 with
 |(a,none)=>dX c d now a (l.drop (j+1))
 |x=>x:=by
 rw[au b]
 conv=>lhs;unfold dX
 rw[dC e];rcases l' c d now r t.Z0 with⟨a,_|_⟩<;>rfl
def Et{c:aq}(h:ch c){n:Nat}{t:tR}(b:c.trans[n]? =some t):t.Z0.length<=32/\ ∀a∈t.Z0,gM c.vars.length c.Z9.length a=true:=by
 have:=h.tr n t b;unfold da eS at this;simp only[Mu,NF,Mz]at this;exact this.1.2
def uw{c:aq}(h:ch c)(act:List Int): ∀ts:List Nat,(dg c act ts).length<=32*ts.length
 |[]=>NG _
 | n::ts=>by
   have:=uw h act ts;have a:=gG h act (dm c n);unfold dg at this |-;rw[Q0,My,NN];omega
def E5{c:aq}(h:ch c)(mem:List ds): ∀ts:List Nat,(toR c mem ts).length<=32*ts.length
 |[]=>NG _
 | n::ts=>by
   have:=E5 h mem ts
   have a:(m6 c (dm c n) mem).length<=32:=by
    unfold m6 IZ;split
    ·exact NG _
    exact cW h.toRight _
   unfold toR at this |-;rw[Q0,My,NN];omega
def Ih(env:b8)(S a2 Q:Addr)(c:aq)(d now:Int)(E:AT env S a2 Q c d now)(r:cD)(T:ff c r)(hl:r.act.length<=100)(hb:tI c r.act=true)(hm:bc c r.mem=true)(hml:r.mem.length<=1000000)(hFm: ∀m∈r.mem,cU m.2.length 8)(ts:List Nat)(hts: ∀n∈ts,∃t,c.trans[n]? =some t)(htl:ts.length<=64)
 (hgo: ∀x∈zL (bt c (dg c r.act ts)),x∈r.act)(hmem:bc c (na c r.act (zL (bt c (dg c r.act ts))) r.mem)=true)(O:(na c r.act (zL (bt c (dg c r.act ts))) r.mem).length<=1000000/\ ∀m∈na c r.act (zL (bt c (dg c r.act ts))) r.mem,cU m.2.length 8)
 (H: ∀r2:cD,ff c r2->r2.act=r.act.filter (fun k=> !(zL (bt c (dg c r.act ts))).reverse.contains k)->(ak c d now r2 [] (zL (bt c (zL (toR c (na c r.act (zL (bt c (dg c r.act ts))) r.mem) ts))))).1.2=none->tI c (ak c d now r2 [] (zL (bt c (zL (toR c (na c r.act (zL (bt c (dg c r.act ts))) r.mem) ts))))).1.1.act=true):
 ip prog env 196 [1000,1001,1002,1003,1004,1005] ph (fun g=>[.loc 1000 (g 1000) 0 0, .seq 1 (ts.map aB)]) (RY c d now r) (RY c d now (lP c d now r ts).1) (fun _=>cr a2 Q (lP c d now r ts).2):=by
 have hfew:=E.h.Z6;have hftr:=E.h.ZP;have hA:=bU E.h;have C:=(cx hb).ZZ;have fT:=bQ env c;have fL:=fun(n:Nat)(t:tR)(z:c.trans[n]? =some t)(Y: ¬t.target<0)=>EZ env S Q E.he c E.h E.hs r.act (by omega) n t z hb Y;have U:=fun(n:Nat)(t:tR)(z:c.trans[n]? =some t)(Y:t.target<0)=>BA env S Q E.he c E.h E.hs r.act (by omega) n t z hb Y;have hlf:=fun t=>gG E.h r.act t;have hgl:=uw E.h r.act;have fS:=(gB env c E.h.toRight (dg c r.act ts) (by have:=hgl ts;omega)).lend (al (fun _=>rfl) _);have hSl:=cW E.h.toRight (dg c r.act ts);have hSk:=fun(k:Nat)(hk:k∈bt c (dg c r.act ts))=>lG E.h.toRight hk;have fR:=wC env S Q E.he c E.h E.hs r.act (zL (bt c (dg c r.act ts))) (by omega) (by rw[am];omega) r.mem hml hFm hb hm hgo;rw[bd]at fR;unfold lP;simp only;generalize hM:na c r.act (zL (bt c (dg c r.act ts))) r.mem=e at*;generalize hGG:bt c (dg c r.act ts)=G at*;have W:=fun(n:Nat)(t:tR)(z:c.trans[n]? =some t)=>EY env S Q E.he c E.h E.hs e O.1 O.2 n t z hmem;have hto:=E5 E.h e;have hrev:(zL G).reverse=zL G.reverse:=by unfold zL;rw[List.map_reverse]
 rw[hrev]at H |-;have B:=HW env S a2 Q c d now E { r with mem:=e } { T with } (by simp only;omega) G hSk (by omega);have kL:=lR hA (l:=zL G.reverse) E.hd E.hn (r:={ r with mem:=e }) { T with };have hal:=fun(r:cD) T hl (l:List j') hll ha=>zU env S a2 Q c d now E r T hl l hll ha;have hok:=fun(r:cD)(T:ff c r)(l:List j') ha=>jm E.hd E.hn (l:=l) T ha;have V:=((gB env c E.h.toRight (zL (toR c e ts)) (by rw[am];have:=hto ts;omega)).lend (al (fun _=>rfl) _)).seen;rw[bd]at V;have hS2l:=cW E.h.toRight (zL (toR c e ts));have hS2k:=fun(k:Nat)(hk:k∈bt c (zL (toR c e ts)))=>lG E.h.toRight hk;have hen:=fun(r2:cD) T C hl H=>xh env S a2 Q c d now E r2 T C hl (bt c (zL (toR c e ts))) hS2k (by omega) H;generalize hTT:bt c (zL (toR c e ts))=T2 at*;unfold aQ at fT fS V;unfold aG at fT fL U fR W;refine qi func196 call196 ntmps196 results196 ?_;intro vs esc hesc;obtain⟨i,o,p,q,s,u⟩:=Sf hesc;have F:=qr UA Uz UC i o p q s u;repeat refine st ?_
 refine ao 5 5 3 1 ?_;refine ao 6 6 3 1 ?_;refine lp (D:=Nat) (fun j b=>[(0, .loc 1000 (b 1000) 0 0),(1, .seq 1 (ts.map aB)),(5, .row 5 (b 5)),(6, .row 6 (b 6)),(21, .seq 1 (ts.map aB)),(22,I ts.length),(23,I j)]) (fun j b=>(5,⟨1,(dg c r.act (ts.take j)).map aa,3,true⟩)::(6,⟨1,[],3,true⟩)::RY c d now r b) (fun j b a=>j<=ts.length/\(b 1000=vs 1000/\b 1002=vs 1002)/\a 1000=false/\a 1001=false/\a 1002=false/\a 1003=false/\a 1004=false/\a 1005=false/\a 5=false/\a 6=false) (fun j=>ts.length-j) 0 ⟨NG _,by simp only[go_sem,NH],by simp only[go_sem,i,o,p,q,s,u,NH]⟩ ?_;try clear i o p q s u
 rintro j ws es ⟨hj,⟨L,M⟩,i,o,p,q,s,u,N,y⟩;by_cases f:j<ts.length
 ·obtain⟨n,J⟩:=gE f;obtain⟨t,z⟩:=hts n (Mv J);have K:=it f;have q2:=aD f (by omega);have hlft:=hlf t;have q4:(dg c r.act (ts.take (j+1))).map aa=(dg c r.act (ts.take j)).map aa++(fj c r.act t).map aa:=by rw[xO J z,NA]
  have q3:(dg c r.act (ts.take j)).length<=32*j:=NK (hgl _) (by rw[NJ];omega);generalize dg c r.act (ts.take j)=A at*;by_cases Y:t.target<0
  ·have f0:=U n t z Y;have hz:fj c r.act t=[]:=by unfold fj;rw[Mw Y]
   rw[hz,O5,OP]at q4;have q5:cU A.length 8:=aC (by omega) (by omega);have F:=ed UA Uz Ux UC J K q2 q5 i o p<|g9 q s u N y;repeat refine st ?_
   refine iL [(1001,1001)] f0 ?_;repeat refine st ?_
   refine⟨j+1,⟨f,by simp only[go_sem,L,M,NH],by simp only[go_sem,i,o,p,q,s,u,N,y,NH]⟩,?_,?_,by omega⟩
   ·exact qe
   simp only[q4];exact qe
  have f0:=fL n t z Y;have q5:cU (A.length+(fj c r.act t).length) 8:=aC (by omega) (by omega);generalize fj c r.act t=Lv at*;refine xu 9001 rfl ?_;have F:=ed UA Uz Ux UC J K q2 q5 i o p<|g9 q s u N y;repeat refine st ?_
  refine iL [(1001,1001),(35,9001)] f0 ?_;repeat refine st ?_
  refine⟨j+1,⟨f,by simp only[go_sem,L,M,NH],by simp only[go_sem,i,o,p,q,s,u,N,y,NH]⟩,?_,?_,by omega⟩
  ·exact qe
  simp only[q4];exact qe
 obtain rfl:j=ts.length:=by omega
 have K:=nl ts.length;rw[NR];have F:=ed UA Uz UC K i o p q s u N y;repeat refine fc fT ?_
 refine lL fS ?_;repeat refine st ?_
 refine iL [(1001,1001),(1006,54)] fR ?_;repeat refine st ?_
 refine lp (D:=Nat) (fun j b=>[(0, .loc 1000 (b 1000) 0 0),(1, .seq 1 (ts.map aB)),(5, .row 54 (b 54)),(6, .row 6 (b 6)),(11,fk e),(82, .seq 1 (ts.map aB)),(83,I ts.length),(84,I j)]) (fun j b=>(54,⟨1,G.map aB,3,true⟩)::(6,⟨1,(toR c e (ts.take j)).map aB,3,true⟩)::RY c d now { r with mem:=e } b) (fun j b a=>j<=ts.length/\(b 1000=vs 1000/\b 1002=vs 1002)/\a 1000=false/\a 1001=false/\a 1002=false/\a 1003=false/\a 1004=false/\a 1005=false/\a 54=false/\a 6=false) (fun j=>ts.length-j) 0 ⟨NG _,by simp only[go_sem,L,M,NH],by simp only[go_sem,i,o,p,q,s,u,y,NH]⟩ ?_;try clear i o p q s u N y L M
 rintro j us fs ⟨hj,⟨L,M⟩,i,o,p,q,s,u,N,y⟩;by_cases f:j<ts.length
 ·obtain⟨n,J⟩:=gE f;obtain⟨t,z⟩:=hts n (Mv J);have K:=it f;have q2:=aD f (by omega);have f0:=W n t z;have q4:(toR c e (ts.take (j+1))).map aB=(toR c e (ts.take j)).map aB++(m6 c t e).map aB:=by rw[sG J z,NA]
  have q3:(toR c e (ts.take j)).length<=32*j:=NK (hto _) (by rw[NJ];omega);have q6:(toR c e (ts.take (j+1))).length<=32*(j+1):=NK (hto _) (by rw[NJ];omega);rw[sG J z,My]at q6;generalize m6 c t e=Tg at*;generalize toR c e (ts.take j)=A at*;have q5:cU (A.length+Tg.length) 8:=aC (by omega) (by omega);have F:=ed UA Uz Ux UC J K q2 q5 i o p<|g9 q s u N y;repeat refine fc f0 ?_
  refine⟨j+1,⟨f,by simp only[go_sem,L,M,NH],by simp only[go_sem,i,o,p,q,s,u,N,y,NH]⟩,?_,?_,by omega⟩
  ·exact qe
  simp only[q4];exact qe
 obtain rfl:j=ts.length:=by omega
 have K:=nl ts.length;rw[NR];try clear fL U W fS fR
 rcases hX:bT c d now { r with mem:=e } (zL G.reverse) with⟨r1,_|⟨k,ps⟩⟩
 ·rw[hX]at B kL;obtain⟨kr,kmm,_,w⟩:=kL;have w:=w rfl;simp only at kr kmm w;have hact1:r1.act.length<=100:=by rw[w];exact NK (NS ..) hl
  have R:r1.act.Pairwise (· < ·):=by rw[w];exact C.sublist OR
  have Z: ∀r2:cD,ff c r2->r2.act=r1.act->(ak c d now r2 [] (zL T2)).1.2=none->tI c (ak c d now r2 [] (zL T2)).1.1.act=true:=fun r2 k1 k2=>H r2 k1 (by rw[k2,w]);unfold cr TF RY lf at B;simp only at B |-;have F:=ed UA Uz UC K i o p q s u N y;repeat refine st ?_
  refine iL [(1000,1000),(1001,1001),(1002,1002),(1003,1003),(1004,1004),(1005,1005),(1006,54)] B ?_;repeat refine st ?_
  refine lp (D:=Nat×cD) (fun x b=>[(0, .loc 1000 (b 1000) 0 0),(6, .row 6 (b 6)),(111, .seq 1 (ts.map aB)),(112,I ts.length),(113,I x.1)]) (fun x b=>(6,⟨1,(toR c e ts).map aB,3,true⟩)::RY c d now x.2 b) (fun x b a=>(x.1<=ts.length/\dX c d now r1 ts=dX c d now x.2 (ts.drop x.1)/\ff c x.2/\x.2.act=r1.act)/\(b 1000=vs 1000/\b 1002=vs 1002)/\a 1000=false/\a 1001=false/\a 1002=false/\a 1003=false/\a 1004=false/\a 1005=false/\a 6=false) (fun x=>ts.length-x.1) (0,r1) ⟨⟨NG _,rfl,kr,rfl⟩,by simp only[go_sem,L,M,NH],by simp only[go_sem,i,o,p,q,s,u,y,NH]⟩ ?_;try clear i o p q s u N y L M
  rintro⟨j,r2⟩ us fs ⟨⟨hj,v,P,h⟩,⟨L,M⟩,i,o,p,q,s,u,y⟩;simp only at hj v P h;by_cases f:j<ts.length
  ·obtain⟨n,J⟩:=gE f;obtain⟨t,z⟩:=hts n (Mv J);obtain⟨s1,s2⟩:=Et E.h z;have hn:=(Mr.1 z).1;have f0:=hal r2 P (by rw[h];omega) t.Z0 (by omega) s2;obtain⟨k1,k2⟩:=hok r2 P t.Z0 s2;have K:=it f;have q2:=aD f (by omega);have q3:=it hn;rw[xy J z]at v;rcases hY:l' c d now r2 t.Z0 with⟨r3,_|⟨k,ps⟩⟩
   ·rw[hY]at v f0 k1 k2;simp only at v k1 k2;unfold cr RY lf at f0;simp only at f0;have F:=ed UA Uz Uy Ux UK UC J z K q2 q3<|mc i o p q s u y;repeat refine st ?_
    refine iL L6 f0 ?_;repeat refine st ?_
    exact qn (j+1,r3) ⟨⟨f,v,k1,k2.act.trans h⟩,by simp only[go_sem,L,M,NH],by simp only[go_sem,i,o,p,q,s,u,y,NH]⟩
   rw[hY]at v f0;simp only at v;unfold cr RY lf at f0;simp only at f0;rw[v];show fp _ _ _ _ _ _;unfold cr;simp only;have F:=ed UA Uz Uy Ux UK UC J z K q2 q3<|qr L M i o p q s u y;repeat refine st ?_
   refine iL L6 f0 ?_;repeat refine st ?_
   exact rI
  obtain rfl:j=ts.length:=by omega
  have K:=nl ts.length;rw[ON]at v;rw[show dX c d now r2 []=(r2,none) from rfl]at v;rw[v];simp only;have f9:=hen r2 P (by rw[h];exact R) (by rw[h];omega) (Z r2 P h);generalize gv c d now r2 (zL T2)=X at*;unfold RY lf at f9;have F:=ed UA Uz UC fB K L M i o p q<|gb s u y;repeat refine fc fT ?_
  refine lL V ?_;repeat refine st ?_
  refine iL L6 f9 ?_;repeat refine st ?_
  exact rI
 rw[hX]at B;unfold cr TF RY lf at B;simp only at B |-;show fp _ _ _ _ _ _;unfold cr;simp only;have F:=ed UA Uz UC K L M i o p q s<|gb u N y;repeat refine st ?_
 refine iL [(1000,1000),(1001,1001),(1002,1002),(1003,1003),(1004,1004),(1005,1005),(1006,54)] B ?_;repeat refine st ?_
 exact rI
end
section
def Jd(l:List Int)(x:Int):l.reverse.contains x=l.contains x:=by
 rw[N4,Mx,Mx,QL]
def Im(c:aq)(act gone:List Int)(mem:List ds):DG c act gone.reverse mem=DG c act gone mem:=by
 have e:DE c act gone.reverse mem=DE c act gone mem:=by
  funext h
  unfold DE;split
  ·rw[Jd]
  rfl
 unfold DG eW;rw[e]
def Gi(env:b8)(l:List Int)(s:l.length<=4000)(n:Int):b7 prog env 120 [.seq 1 (l.map aa),I n] (.own 3 1 ((l.filter fun k=> !(k==n)).map aa)):=by
 refine qf func120 call120 ntmps120 results120 ?_;repeat refine m9 ?_
 refine RK l.length (by omega) (fun j m=>[(0, .seq 1 (l.map aa)),(1,I n),(5, .row 7 (m 7)),(6,I j)]) (fun j m=>[(7,⟨1,((l.take j).filter fun k=> !(k==n)).map aa,3,true⟩)]) (fun j _ g=>g 7=false) (by simp only[go_sem]) ?_ ?_
 ·rintro j r o b f i c;obtain⟨x,e⟩:=gE b;have p:((l.take j).filter fun k=> !(k==n)).length<=j:=NK (NS ..) (by rw[NJ];omega);have q:cU (((l.take j).filter fun k=> !(k==n)).length+1) 8:=aC (by omega) (by omega);cases d:x==n with
  | true=>
    have h:(l.take (j+1)).filter (fun k=> !(k==n))=(l.take j).filter fun k=> !(k==n):=by rw[bV e,N5];simp[d]
    have a:(x != n)=false:=by unfold bne;rw[d];rfl
    have F:=i' UE e a f i c;repeat refine st ?_
    refine⟨j+1,⟨b,by simp only[go_sem,c]⟩,?_,?_,by omega⟩
    ·exact qe
    simp only[h];exact qe
  | false=>
    have h:((l.take (j+1)).filter (fun k=> !(k==n))).map aa=((l.take j).filter fun k=> !(k==n)).map aa++[aa x]:=by rw[bV e,N5];simp[d]
    have a:(x != n)=true:=by unfold bne;rw[d];rfl
    have F:=mc UE e a f i q c;repeat refine st ?_
    refine⟨j+1,⟨b,by simp only[go_sem,c]⟩,?_,?_,by omega⟩
    ·exact qe
    simp only[h];exact qe
 rintro r o f c;rw[NR];have F:=ai f c;exact ek
def A6(env:b8)(c:aq)(h:ch c)(d now:Int)(r:cD)(G:List Nat)(k:Nat)(ps:List Int)(e:((k:Int)==0)=false):b7 prog env 59 [.agg (aA c), .agg (fi r d now (some (k,ps))), .seq 1 (G.map aB)] (.agg (fi r d now (some (k,ps)))):=by
 have a:=sX env c h;generalize gu c (-1)=W at*;unfold fi;unfold aA at a;by_cases f:(0:Int)< (G.length:Int)
 ·by_cases b:(0:Int)< (W.length:Int)
  ·refine qf func59 call59 ntmps59 results59 ?_;have F:=hU Uv e f b;repeat (first|refine aT ?_|refine st ?_|refine cC a ?_|refine aO 40 ?_)
   exact aR
  refine qf func59 call59 ntmps59 results59 ?_;have F:=hU Uv e f b;repeat (first|refine aT ?_|refine st ?_|refine cC a ?_|refine aO 40 ?_)
  exact aR
 by_cases b:(0:Int)< (W.length:Int)
 ·refine qf func59 call59 ntmps59 results59 ?_;have F:=hU Uv e f b;repeat (first|refine aT ?_|refine st ?_|refine cC a ?_|refine aO 40 ?_)
  exact aR
 refine qf func59 call59 ntmps59 results59 ?_;have F:=hU Uv e f b;repeat (first|refine aT ?_|refine st ?_|refine cC a ?_|refine aO 40 ?_)
 exact aR
end
end Go.Proofs.YtfhkmjbjafeckaaGreatDoor
