/- micro.First of any right chart. -/
import Derived.Test.YtfcdkaolcdglmaaGreatDoorP25
set_option maxRecDepth 100000
set_option maxHeartbeats 16000000
set_option linter.unusedSimpArgs false
set_option linter.defProp false
namespace Go.Proofs.YtfcdkaolcdglmaaGreatDoor
open Go.Proofs.Tryz
open Go.RowKit
section
def vK(env:b7)(G:List Int)(a:G.length<=1000000)(i:Int):cy prog env 204 [I i, .ref 1 [[.seq 1 (G.map aa)]] 0 0] (B (G.contains i)):=by
 have f0:=bG env G i a;refine qf func204 call204 ntmps204 results204 ?_;repeat refine nf f0 ?_
 exact L0
def l8{c:aq}(h:cD c)(act:List Int)(t:Fr):(iS c act t).length<=32:=by
 unfold iS;split
 ·simp
 rw[Q6];unfold Vq;exact O3 (Ol ..) (by rw[cQ];exact gd h.toRight act)
def oP(env:b7)(j k:Addr)(n:fk env j k)(c:aq)(h:cD c)(p:h9 c)(act:List Int)(o:act.length<=1000000)(m:F' c act=true)(a b:Nat)(q:a<c.trans.length)(l:b<c.trans.length):cy prog env 182 [aH c,cI act,I a,I b] (B (eQ c act a b)):=by
 obtain⟨g,e⟩:=gE q;obtain⟨d,f⟩:=gE l;have f0:=xR env j k n c h p act o a g e m;have f1:=xR env j k n c h p act o b d f m;have r:=l8 h act g;have s:=l8 h act d;have f2:=kq env (iS c act g) (fun i=>(iS c act d).contains i) 204 [[.seq 1 ((iS c act d).map aa)]] (fun i=>vK env (iS c act d) (by omega) i) (by omega);unfold eQ;rw[fF e,fF f];generalize iS c act g=A at*;generalize iS c act d=C at*;unfold aH at f0 f1 |-;refine qf func182 call182 ntmps182 results182 ?_;repeat refine E8 f0 f1 ?_
 refine VZ f2 ?_;repeat refine sm ?_
 exact L0
def Jd{c:aq}{act:List Int}{l:List Nat}{n k:Nat}(b:k∈l)(h:vR c act n k=false):rx c act l n=l:=by
 unfold rx;rw[OK];intro a;rw[OP.1 a k b]at h;cases h
def Iv(env:b7)(H J:Addr)(R:fk env H J)(c:aq)(h:cD c)(W:h9 c)(x:E')(d:Int)(O:Uu c x d)(l:List Nat)(Z:l.length<=1000)(z: ∀n∈l,n<c.trans.length)(n:Nat)(A:n<c.trans.length):
 cy prog env 158 [.ref 15 [UJ c x d] 0 0, .seq 1 (l.map aB),I n] (.seq 1 ((rx c x.1 l n).map aB)):=by
 have M:=h.Z6;have f0:=fun k z=>oP env H J R c h W x.1 (by have:=O.act;omega) O.lg k n z A;have f1:=bJ env c;have f2:=fun i k=>fP env c h.toRight i k;obtain⟨G,q⟩:=gE A;have P:=mc A;unfold aS at f1 f2;unfold aH at f0 f1;refine qf func158 call158 ntmps158 results158 ?_;repeat refine sm ?_
 refine am 7 7 3 1 ?_;refine Wp (D:=Nat) (fun j X=>[(0, .ref 15 [UJ c x d] 0 0),(1, .seq 1 (l.map aB)),(2,I n),(7, .row 7 (X 7)),(10, .seq 1 (l.map aB)),(11,I l.length),(12,I j)]) (fun j _=>[(7,⟨1,((l.take j).filter fun k=> !eQ c x.1 k n).map aB,3,true⟩)]) (fun j _ s=>(j<=l.length/\(l.take j).all (vR c x.1 n)=true)/\s 7=false) (fun j=>l.length-j) 0 ⟨⟨O6 _,rfl⟩,rfl⟩ ?_;rintro j ws s ⟨⟨Y,f⟩,r⟩;have S:((l.take j).filter fun k=> !eQ c x.1 k n).length<=l.length:=O3 (Ol ..) (by rw[OZ];omega);have y:ek (((l.take j).filter fun k=> !eQ c x.1 k n).length+1) 8:=aG (by omega) (by omega);by_cases m:j<l.length
 ·obtain⟨k,g⟩:=gE m;have v:=OM g;have o:=z k v;obtain⟨E,p⟩:=gE o;have w:=mc m;have B:=aD m (by omega);have C:=mc o;have f3:=f0 k o;have f4:=f2 E.src G.src;have N:=dF g
  have e:((l.take (j+1)).filter fun k=> !eQ c x.1 k n)=((l.take j).filter fun k=> !eQ c x.1 k n)++if eQ c x.1 k n=true then [] else [k]:=by
   rw[N,PH]
   congr 1
   cases U:eQ c x.1 k n<;>simp[U]
  have a:vR c x.1 n k=(!eQ c x.1 k n||bx c E.src G.src):=by unfold vR;rw[fF p,fF q]
  have u: ∀b,vR c x.1 n k=b->(l.take (j+1)).all (vR c x.1 n)=b:=fun b Q=>by rw[N,SI,f];simp[Q]
  cases L:eQ c x.1 k n with
  | false=>
    rw[L]at f3 e a;simp only[On,P8]at e;have F:=L7 Xd WJ g w B C y r;repeat refine g8 f3 ?_
    refine⟨j+1,⟨⟨m,u _ (by rw[a];rfl)⟩,by simp only[go_sem,r]⟩,?_,?_,by omega⟩
    ·exact qe
    have F:=jw WJ e @Oa.{0,0};exact qe
  | true=>
    rw[L]at f3 e a;simp only[PW,P9]at e;simp only[QA,Qq]at a;cases t:bx c E.src G.src with
    | true=>
      rw[t]at f4 a;have F:=u4 Xd WP WJ g p q w B C P r;repeat refine V6 f1 f3 f4 ?_
      refine⟨j+1,⟨⟨m,u _ a⟩,by simp only[go_sem,r]⟩,?_,?_,by omega⟩
      ·exact qe
      have F:=ai WJ e;exact qe
    | false=>
      rw[t]at f4 a;rw[Jd v a];have F:=u4 Xd WP WJ g p q w B C P r;exact UR f1 f3 f4
 obtain rfl:j=l.length:=by omega
 have w:=nl l.length;rw[Ob]at f y;have V:rx c x.1 l n=(l.filter fun k=> !eQ c x.1 k n)++[n]:=by unfold rx;rw[OL f]
 have T:(rx c x.1 l n).map aB=((l.filter fun k=> !eQ c x.1 k n).map aB)++[[I (n:Int)]]:=by rw[V,Oa];rfl
 rw[T,Ob];generalize (l.filter fun k=> !eQ c x.1 k n)=K at*;have F:=mX WJ w y r;repeat refine st ?_
 refine iX (dT.frozen 7 6 ⟨1,K.map aB++[[I (n:Int)]],3,true⟩ rfl (PD 0) (by simp only[go_sem]) (by simp only[go_sem])) ?_;exact aR
def UF(x:E'):Rc:=⟨0,0,0,x.1,x.2.1,x.2.2.1,x.2.2.2.1,x.2.2.2.2⟩
def FD(x:E'):B9 (UF x)=o' x:=rfl
def GZ(env:b7)(a b:Addr)(i:fk env a b)(c:aq)(h:cD c)(n:h9 c)(x:E')(f:UH (UF x))(j: ∀t∈x.2.2.2.1,t.1.length<=9223372036854775807)(e: ∀m∈x.2.2.1,ek m.2.length 8)(o:List UInt8)(d:Int)(l:cM c (UF x)=true)(k:x.2.2.2.2=false)(g:aL d=true):cy prog env 154 [Sg o,aH c, .agg (o' x),I d] gc:=by
 have f0:=nE env a b i c h n (UF x) f j e;unfold rF at f0;rw[OL l,FD]at f0;have f1:=dD env d;rw[g]at f1;unfold aH o' at f0 |-;refine qf func154 call154 ntmps154 results154 ?_;have F:=k;exact po f0 f1
end
section
def Ac(env:b7)(b d:Addr)(m:fk env b d)(c:aq)(h:cD c)(e:h9 c)(act:List Int)(n:act.length<=1000000)(k:Nat)(t:Fr)(o:c.trans[k]? =some t)(l:F' c act=true)(j:t.target<0):
 g6 prog env 202 [1001] (fun _=>false) (fun g=>[aH c, .row 1001 (g 1001),I k]) (fun _=>[(1001,⟨1,act.map aa,3,true⟩)]) (fun _=>[(1001,⟨1,act.map aa,3,true⟩)]) (fun _=> .tuple [gb,gc]):=by
 have f0:=cY env b d m c h e act n;have f1:=o5 env c e k t o;unfold vL at f0;rw[l]at f0;simp only[PW]at f0;have f0:=f0.lend rfl;unfold cN at f1;unfold aH at f0 f1 |-;refine qi func202 call202 ntmps202 results202 ?_;intro p i a;have f:=a 1001 (by simp);have F:=ai j f;repeat refine st ?_
 refine lL f0 ?_;repeat refine g8 f1 ?_
 exact rI
def Hk{c:aq}{act:List Int}{a:List Nat}{j n:Nat}{t:Fr}(b:a[j]? =some n)(d:c.trans[n]? =some t):fj c act (a.take (j+1))=fj c act (a.take j)++iS c act t:=by
 unfold fj;rw[dF b,QC];simp[fF d]
def E9{c:aq}{mem:List ed}{a:List Nat}{j n:Nat}{t:Fr}(b:a[j]? =some n)(d:c.trans[n]? =some t):toR c mem (a.take (j+1))=toR c mem (a.take j)++tD c t mem:=by
 unfold toR;rw[dF b,QC];simp[fF d]
def IV{c:aq}{d a:Int}{r:dg}{l:List Nat}{j n:Nat}{t:Fr}(e:l[j]? =some n)(f:c.trans[n]? =some t):gW c d a r (l.drop j)=match tI c d a r t.ZZ with
 |(b,none)=>gW c d a b (l.drop (j+1))
 |x=>x:=by
 rw[bV e]
 conv=>lhs;unfold gW
 rw[fF f];rcases tI c d a r t.ZZ with⟨b,_|_⟩<;>rfl
def L5{c:aq}(h:cD c){n:Nat}{t:Fr}(b:c.trans[n]? =some t):t.ZZ.length<=32/\ ∀a∈t.ZZ,iM c.vars.length c.Z9.length a=true:=by
 have:=h.tr n t b;unfold d9 eR at this;simp only[OJ,OR,OP]at this;exact this.1.2
def Bg{c:aq}(h:cD c)(act:List Int): ∀a:List Nat,(fj c act a).length<=32*a.length
 |[]=>O6 _
 | n::a=>by
   have:=Bg h act a;have b:=l8 h act (dw c n);unfold fj at this |-;rw[Q8,ON,OU];omega
def Kh{c:aq}(h:cD c)(mem:List ed): ∀a:List Nat,(toR c mem a).length<=32*a.length
 |[]=>O6 _
 | n::a=>by
   have:=Kh h mem a
   have b:(tD c (dw c n) mem).length<=32:=by
    unfold tD L8;split
    ·exact O6 _
    exact gd h.toRight _
   unfold toR at this |-;rw[Q8,ON,OU];omega
def Ix(env:b7)(U a2 S:Addr)(c:aq)(d h:Int)(E:I' env U a2 S c d h)(r:dg)(V:fy c r)(hl:r.act.length<=100)(hb:F' c r.act=true)(hm:bu c r.mem=true)(hml:r.mem.length<=1000000)(hFm: ∀m∈r.mem,ek m.2.length 8)(b:List Nat)(hts: ∀n∈b,∃t,c.trans[n]? =some t)(htl:b.length<=64)
 (hgo: ∀x∈zL (ca c (fj c r.act b)),x∈r.act)(hmem:bu c (u5 c r.act (zL (ca c (fj c r.act b))) r.mem)=true)(Q:(u5 c r.act (zL (ca c (fj c r.act b))) r.mem).length<=1000000/\ ∀m∈u5 c r.act (zL (ca c (fj c r.act b))) r.mem,ek m.2.length 8)
 (K: ∀r2:dg,fy c r2->r2.act=r.act.filter (fun k=> !(zL (ca c (fj c r.act b))).reverse.contains k)->(bA c d h r2 [] (zL (ca c (zL (toR c (u5 c r.act (zL (ca c (fj c r.act b))) r.mem) b))))).1.2=none->F' c (bA c d h r2 [] (zL (ca c (zL (toR c (u5 c r.act (zL (ca c (fj c r.act b))) r.mem) b))))).1.1.act=true):
 g6 prog env 185 [1000,1001,1002,1003,1004,1005] qr (fun g=>[.loc 1000 (g 1000) 0 0, .seq 1 (b.map aB)]) (RY c d h r) (RY c d h (tS c d h r b).1) (fun _=>cj a2 S (tS c d h r b).2):=by
 have hfew:=E.h.Z6;have hftr:=E.h.ZF;have hA:=cc E.h;have J:=(eW hb).ZY;have fT:=bJ env c;have fL:=fun(n:Nat)(t:Fr)(C:c.trans[n]? =some t)(h0: ¬t.target<0)=>EG env U S E.he c E.h E.hs r.act (by omega) n t C hb h0;have W:=fun(n:Nat)(t:Fr)(C:c.trans[n]? =some t)(h0:t.target<0)=>Ac env U S E.he c E.h E.hs r.act (by omega) n t C hb h0;have hlf:=fun t=>l8 E.h r.act t;have hgl:=Bg E.h r.act;have fS:=(fZ env c E.h.toRight (fj c r.act b) (by have:=hgl b;omega)).lend (cA (fun _=>rfl) _);have hSl:=gd E.h.toRight (fj c r.act b);have hSk:=fun(k:Nat)(hk:k∈ca c (fj c r.act b))=>tz E.h.toRight hk;have fR:=vO env U S E.he c E.h E.hs r.act (zL (ca c (fj c r.act b))) (by omega) (by rw[cQ];omega) r.mem hml hFm hb hm hgo;rw[gL]at fR;unfold tS;simp only;generalize hM:u5 c r.act (zL (ca c (fj c r.act b))) r.mem=f at*;generalize hGG:ca c (fj c r.act b)=G at*;have Z:=fun(n:Nat)(t:Fr)(C:c.trans[n]? =some t)=>EE env U S E.he c E.h E.hs f Q.1 Q.2 n t C hmem;have hto:=Kh E.h f;have hrev:(zL G).reverse=zL G.reverse:=by unfold zL;rw[List.map_reverse]
 rw[hrev]at K |-;have H:=H5 env U a2 S c d h E { r with mem:=f } { V with } (by simp only;omega) G hSk (by omega);have kL:=uN hA (l:=zL G.reverse) E.hd E.hn (r:={ r with mem:=f }) { V with };have hal:=fun(r:dg) V hl (l:List n9) hll ha=>yo env U a2 S c d h E r V hl l hll ha;have hok:=fun(r:dg)(V:fy c r)(l:List n9) ha=>mV E.hd E.hn (l:=l) V ha;have Y:=((fZ env c E.h.toRight (zL (toR c f b)) (by rw[cQ];have:=hto b;omega)).lend (cA (fun _=>rfl) _)).seen;rw[gL]at Y;have hS2l:=gd E.h.toRight (zL (toR c f b));have hS2k:=fun(k:Nat)(hk:k∈ca c (zL (toR c f b)))=>tz E.h.toRight hk;have hen:=fun(r2:dg) V J hl K=>wz env U a2 S c d h E r2 V J hl (ca c (zL (toR c f b))) hS2k (by omega) K;generalize hTT:ca c (zL (toR c f b))=T2 at*;unfold aS at fT fS Y;unfold aH at fT fL W fR Z;refine qi func185 call185 ntmps185 results185 ?_;intro vs esc hesc;obtain⟨p,q,s,u,v,w⟩:=UB hesc;have F:=y' WL WK WM p q s u v w;repeat refine st ?_
 refine am 5 5 3 1 ?_;refine am 6 6 3 1 ?_;refine lp (D:=Nat) (fun j e=>[(0, .loc 1000 (e 1000) 0 0),(1, .seq 1 (b.map aB)),(5, .row 5 (e 5)),(6, .row 6 (e 6)),(21, .seq 1 (b.map aB)),(22,I b.length),(23,I j)]) (fun j e=>(5,⟨1,(fj c r.act (b.take j)).map aa,3,true⟩)::(6,⟨1,[],3,true⟩)::RY c d h r e) (fun j e a=>j<=b.length/\(e 1000=vs 1000/\e 1002=vs 1002)/\a 1000=false/\a 1001=false/\a 1002=false/\a 1003=false/\a 1004=false/\a 1005=false/\a 5=false/\a 6=false) (fun j=>b.length-j) 0 ⟨O6 _,by simp only[go_sem,O8],by simp only[go_sem,p,q,s,u,v,w,O8]⟩ ?_;try clear p q s u v w
 rintro j ws es ⟨hj,⟨N,O⟩,p,q,s,u,v,w,P,B⟩;by_cases i:j<b.length
 ·obtain⟨n,L⟩:=gE i;obtain⟨t,C⟩:=hts n (OM L);have M:=mc i;have q2:=aD i (by omega);have hlft:=hlf t;have q4:(fj c r.act (b.take (j+1))).map aa=(fj c r.act (b.take j)).map aa++(iS c r.act t).map aa:=by rw[Hk L C,Oa]
  have q3:(fj c r.act (b.take j)).length<=32*j:=O3 (hgl _) (by rw[OZ];omega);generalize fj c r.act (b.take j)=A at*;by_cases h0:t.target<0
  ·have f0:=W n t C h0;have hz:iS c r.act t=[]:=by unfold iS;rw[OL h0]
   rw[hz,Pv,P9]at q4;have q5:ek A.length 8:=aG (by omega) (by omega);have F:=fb WL WK WJ WM L M q2 q5 p q s<|ld u v w P B;repeat refine st ?_
   refine iL [(1001,1001)] f0 ?_;repeat refine st ?_
   refine⟨j+1,⟨i,by simp only[go_sem,N,O,O8],by simp only[go_sem,p,q,s,u,v,w,P,B,O8]⟩,?_,?_,by omega⟩
   ·exact qe
   simp only[q4];exact qe
  have f0:=fL n t C h0;have q5:ek (A.length+(iS c r.act t).length) 8:=aG (by omega) (by omega);generalize iS c r.act t=Lv at*;refine xN 9001 rfl ?_;have F:=fb WL WK WJ WM L M q2 q5 p q s<|ld u v w P B;repeat refine st ?_
  refine iL [(1001,1001),(35,9001)] f0 ?_;repeat refine st ?_
  refine⟨j+1,⟨i,by simp only[go_sem,N,O,O8],by simp only[go_sem,p,q,s,u,v,w,P,B,O8]⟩,?_,?_,by omega⟩
  ·exact qe
  simp only[q4];exact qe
 obtain rfl:j=b.length:=by omega
 have M:=nl b.length;rw[Ob];have F:=fb WL WK WM M p q s u v w P B;repeat refine g8 fT ?_
 refine lL fS ?_;repeat refine st ?_
 refine iL [(1001,1001),(1006,54)] fR ?_;repeat refine st ?_
 refine lp (D:=Nat) (fun j e=>[(0, .loc 1000 (e 1000) 0 0),(1, .seq 1 (b.map aB)),(5, .row 54 (e 54)),(6, .row 6 (e 6)),(11,i9 f),(82, .seq 1 (b.map aB)),(83,I b.length),(84,I j)]) (fun j e=>(54,⟨1,G.map aB,3,true⟩)::(6,⟨1,(toR c f (b.take j)).map aB,3,true⟩)::RY c d h { r with mem:=f } e) (fun j e a=>j<=b.length/\(e 1000=vs 1000/\e 1002=vs 1002)/\a 1000=false/\a 1001=false/\a 1002=false/\a 1003=false/\a 1004=false/\a 1005=false/\a 54=false/\a 6=false) (fun j=>b.length-j) 0 ⟨O6 _,by simp only[go_sem,N,O,O8],by simp only[go_sem,p,q,s,u,v,w,B,O8]⟩ ?_;try clear p q s u v w P B N O
 rintro j us fs ⟨hj,⟨N,O⟩,p,q,s,u,v,w,P,B⟩;by_cases i:j<b.length
 ·obtain⟨n,L⟩:=gE i;obtain⟨t,C⟩:=hts n (OM L);have M:=mc i;have q2:=aD i (by omega);have f0:=Z n t C;have q4:(toR c f (b.take (j+1))).map aB=(toR c f (b.take j)).map aB++(tD c t f).map aB:=by rw[E9 L C,Oa]
  have q3:(toR c f (b.take j)).length<=32*j:=O3 (hto _) (by rw[OZ];omega);have q6:(toR c f (b.take (j+1))).length<=32*(j+1):=O3 (hto _) (by rw[OZ];omega);rw[E9 L C,ON]at q6;generalize tD c t f=Tg at*;generalize toR c f (b.take j)=A at*;have q5:ek (A.length+Tg.length) 8:=aG (by omega) (by omega);have F:=fb WL WK WJ WM L M q2 q5 p q s<|ld u v w P B;repeat refine g8 f0 ?_
  refine⟨j+1,⟨i,by simp only[go_sem,N,O,O8],by simp only[go_sem,p,q,s,u,v,w,P,B,O8]⟩,?_,?_,by omega⟩
  ·exact qe
  simp only[q4];exact qe
 obtain rfl:j=b.length:=by omega
 have M:=nl b.length;rw[Ob];try clear fL W Z fS fR
 rcases hX:bd c d h { r with mem:=f } (zL G.reverse) with⟨r1,_|⟨k,ps⟩⟩
 ·rw[hX]at H kL;obtain⟨kr,kmm,_,z⟩:=kL;have z:=z rfl;simp only at kr kmm z;have hact1:r1.act.length<=100:=by rw[z];exact O3 (Ol ..) hl
  have T:r1.act.Pairwise (· < ·):=by rw[z];exact J.sublist Pf
  have hlegr: ∀r2:dg,fy c r2->r2.act=r1.act->(bA c d h r2 [] (zL T2)).1.2=none->F' c (bA c d h r2 [] (zL T2)).1.1.act=true:=fun r2 k1 k2=>K r2 k1 (by rw[k2,z]);unfold cj VL RY la at H;simp only at H |-;have F:=fb WL WK WM M p q s u v w P B;repeat refine st ?_
  refine iL [(1000,1000),(1001,1001),(1002,1002),(1003,1003),(1004,1004),(1005,1005),(1006,54)] H ?_;repeat refine st ?_
  refine lp (D:=Nat×dg) (fun x e=>[(0, .loc 1000 (e 1000) 0 0),(6, .row 6 (e 6)),(111, .seq 1 (b.map aB)),(112,I b.length),(113,I x.1)]) (fun x e=>(6,⟨1,(toR c f b).map aB,3,true⟩)::RY c d h x.2 e) (fun x e a=>(x.1<=b.length/\gW c d h r1 b=gW c d h x.2 (b.drop x.1)/\fy c x.2/\x.2.act=r1.act)/\(e 1000=vs 1000/\e 1002=vs 1002)/\a 1000=false/\a 1001=false/\a 1002=false/\a 1003=false/\a 1004=false/\a 1005=false/\a 6=false) (fun x=>b.length-x.1) (0,r1) ⟨⟨O6 _,rfl,kr,rfl⟩,by simp only[go_sem,N,O,O8],by simp only[go_sem,p,q,s,u,v,w,B,O8]⟩ ?_;try clear p q s u v w P B N O
  rintro⟨j,r2⟩ us fs ⟨⟨hj,y,R,o⟩,⟨N,O⟩,p,q,s,u,v,w,B⟩;simp only at hj y R o;by_cases i:j<b.length
  ·obtain⟨n,L⟩:=gE i;obtain⟨t,C⟩:=hts n (OM L);obtain⟨s1,s2⟩:=L5 E.h C;have hn:=(OG.1 C).1;have f0:=hal r2 R (by rw[o];omega) t.ZZ (by omega) s2;obtain⟨k1,k2⟩:=hok r2 R t.ZZ s2;have M:=mc i;have q2:=aD i (by omega);have q3:=mc hn;rw[IV L C]at y;rcases hY:tI c d h r2 t.ZZ with⟨r3,_|⟨k,ps⟩⟩
   ·rw[hY]at y f0 k1 k2;simp only at y k1 k2;unfold cj RY la at f0;simp only at f0;have F:=fb WL WK WP WJ Xg WM L C M q2 q3<|vb p q s u v w B;repeat refine st ?_
    refine iL L6 f0 ?_;repeat refine st ?_
    exact qn (j+1,r3) ⟨⟨i,y,k1,k2.act.trans o⟩,by simp only[go_sem,N,O,O8],by simp only[go_sem,p,q,s,u,v,w,B,O8]⟩
   rw[hY]at y f0;simp only at y;unfold cj RY la at f0;simp only at f0;rw[y];show gu _ _ _ _ _ _;unfold cj;simp only;have F:=fb WL WK WP WJ Xg WM L C M q2 q3<|y' N O p q s u v w B;repeat refine st ?_
   refine iL L6 f0 ?_;repeat refine st ?_
   exact rI
  obtain rfl:j=b.length:=by omega
  have M:=nl b.length;rw[Q3]at y;rw[show gW c d h r2 []=(r2,none) from rfl]at y;rw[y];simp only;have f9:=hen r2 R (by rw[o];exact T) (by rw[o];omega) (hlegr r2 R o);generalize ip c d h r2 (zL T2)=X at*;unfold RY la at f9;have F:=fb WL WK WM ei M N O p q s u<|jw v w B;repeat refine g8 fT ?_
  refine lL Y ?_;repeat refine st ?_
  refine iL L6 f9 ?_;repeat refine st ?_
  exact rI
 rw[hX]at H;unfold cj VL RY la at H;simp only at H |-;show gu _ _ _ _ _ _;unfold cj;simp only;have F:=fb WL WK WM M N O p q s u v<|jw w P B;repeat refine st ?_
 refine iL [(1000,1000),(1001,1001),(1002,1002),(1003,1003),(1004,1004),(1005,1005),(1006,54)] H ?_;repeat refine st ?_
 exact rI
end
section
end
section
end
section
end
section
def lG(env:b7)(es:List (List AV))(c:ek es.length 8):cy prog env 114 [.seq 1 es] (.own 3 1 es):=by
 cases es with
 | nil=>
   refine cy.empty fun A a=> ?_;cases A with
   | none=>
     refine qw func114 call114 ntmps114 results114 ?_;repeat refine sm ?_
     (refine aO ?_;refine⟨_,(by show (au _ _ _).run _=some _;simp only[go_sem];rfl),?_⟩)
     exact i8.own_nil _ _ (by decide)
   | some A=>
     refine qf func114 call114 ntmps114 results114 ?_;repeat refine sm ?_
     exact L0
 | cons d l=>
   have b:ek (l.length+1) 8:=c;refine qf func114 call114 ntmps114 results114 ?_;have F:=b;exact fl
def AU(env:b7)(es:List (List AV))(c:ek es.length 24):cy prog env 115 [.seq 2 es] (.own 95 2 es):=by
 cases es with
 | nil=>
   refine cy.empty fun A a=> ?_;cases A with
   | none=>
     refine qw func115 call115 ntmps115 results115 ?_;repeat refine sm ?_
     (refine aO ?_;refine⟨_,(by show (au _ _ _).run _=some _;simp only[go_sem];rfl),?_⟩)
     exact i8.own_nil _ _ (by decide)
   | some A=>
     refine qf func115 call115 ntmps115 results115 ?_;repeat refine sm ?_
     exact L0
 | cons d l=>
   have b:ek (l.length+1) 24:=c;refine qf func115 call115 ntmps115 results115 ?_;have F:=b;exact fl
end
section
def MK(env:b7)(Z a8:Addr)(he:fk env Z a8)(c:aq)(h:cD c)(U:h9 c)(d x:Int)(r:dg)(hl:r.act.length<=1000)(hb:F' c r.act=true)(l:List Nat)(N:Fit c r.act l)(hll:l.length<=1000):
 g6 prog env 184 [1000,1001,1002,1003,1004,1005] (fun _=>false) (fun g=>[.loc 1000 (g 1000) 0 0, .seq 1 (l.map aB)]) (RY c d x r) (RY c d x r) (fun _=>B true):=by
 have htr:=h.ZF
 have fC:=fun(n:Nat)(t:Fr)(M:c.trans[n]? =some t)(S:t.src∈r.act)=>by
  have:=bG env r.act t.src (by omega);rw[OQ.2 S]at this;exact this.lend rfl
 have fK:=fun(a b:Nat) ha O=>(oP env Z a8 he c h U r.act (by omega) hb a b ha O).lend rfl;have L:=Ow.1 N.two;unfold aH at fK;refine qi func184 call184 ntmps184 results184 ?_;intro v esc J;obtain⟨m,o,p,q,s,u⟩:=UB J;have F:=L7 WL WK m o p q s u;repeat refine st ?_
 refine lq l.length (by omega) (fun i e=>[(0, .loc 1000 (e 1000) 0 0),(1, .seq 1 (l.map aB)),(9, .seq 1 (l.map aB)),(10,I l.length),(11,I i)]) (fun i e=>RY c d x r e) (fun i e f=>(e 1000=v 1000/\e 1001=v 1001/\e 1002=v 1002/\e 1003=v 1003/\e 1004=v 1004/\e 1005=v 1005)/\f 1000=false/\f 1001=false/\f 1002=false/\f 1003=false/\f 1004=false/\f 1005=false) ⟨by simp only[go_sem,O8],by simp only[go_sem,m,o,p,q,s,u,O8]⟩ ?_ ?_
 ·try clear m o p q s u
  rintro i ws es y Y q2 ⟨⟨z,A,C,E,G,H⟩,m,o,p,q,s,u⟩;obtain⟨n,W⟩:=gE y;obtain⟨t,M,S⟩:=N.real n (OM W);have hn:=(OG.1 M).1;have f0:=fC n t M S;have q3: ¬(n:Int)<0:=by omega
  have q4: ¬(c.trans.length:Int)<=(n:Int):=by omega
  have q5:(n:Int)< (c.trans.length:Int):=by omega
  have q6:(l.take i).length=i:=by rw[OZ];omega
  have q7:(i:Int)<=(l.length:Int):=by omega
  have F:=fb WP WJ WL WK W M Y q3 q4 q5 q7<|pf m o p q s u;repeat refine st ?_
  refine lL f0 ?_;repeat refine st ?_
  generalize hT:l.take i=T at*;refine lp (D:=Nat) (fun j e=>[(0, .loc 1000 (e 1000) 0 0),(1, .seq 1 (l.map aB)),(6,I n),(9, .seq 1 (l.map aB)),(10,I l.length),(11,I i),(48, .seq 1 (T.map aB)),(49,I T.length),(50,I j)]) (fun j e=>RY c d x r e) (fun j e f=>j<=i/\(e 1000=v 1000/\e 1001=v 1001/\e 1002=v 1002/\e 1003=v 1003/\e 1004=v 1004/\e 1005=v 1005)/\f 1000=false/\f 1001=false/\f 1002=false/\f 1003=false/\f 1004=false/\f 1005=false) (fun j=>i-j) 0 ⟨O6 _,by simp only[go_sem,z,A,C,E,G,H,O8],by simp only[go_sem,m,o,p,q,s,u,O8]⟩ ?_;try clear m o p q s u z A C E G H
  rintro j us fs ⟨hj,⟨z,A,C,E,G,H⟩,m,o,p,q,s,u⟩;by_cases w:j<i
  ·obtain⟨k,P⟩: ∃a,T[j]? =some a:=⟨T[j]'(by omega),OE (by omega)⟩;have K:l[j]? =some k:=by rw[<-hT,Om,OL w]at P;exact P
   obtain⟨tk,V,_⟩:=N.real k (OM K);have Q:=(OG.1 V).1;have R:=L j i (by omega) y w;rw[(OG.1 K).2,(OG.1 W).2]at R;have f1:=fK k n Q hn;rw[R.2]at f1;have X:(j:Int)< (T.length:Int):=by omega
   have p2:IntKind.i64.wrap ((j:Int)+1)=((j+1:Nat):Int):=aD (show j<l.length by omega) (by omega);have p3:((k:Int)==(n:Int))=false:=by have:=R.1;simp;omega
   have F:=fb WJ WL WK P X p2 p3 m o p q<|ai s u;repeat refine st ?_
   refine lL f1 ?_;repeat refine st ?_
   exact qn (j+1) ⟨w,by simp only[go_sem,z,A,C,E,G,H,O8],by simp only[go_sem,m,o,p,q,s,u,O8]⟩
  obtain rfl:j=i:=by omega
  have X: ¬(j:Int)< (T.length:Int):=by omega
  have F:=zs WL WK X q2 m o p q s u;repeat refine st ?_
  exact qn (j+1) ⟨y,by simp only[go_sem,z,A,C,E,G,H,O8],by simp only[go_sem,m,o,p,q,s,u,O8]⟩
 try clear m o p q s u
 rintro ws es Y ⟨⟨z,A,C,E,G,H⟩,m,o,p,q,s,u⟩;have F:=fb WL WK Y z A C E G H m o<|mX p q s u;repeat refine st ?_
 exact rI
end
section
def rZ(c:aq)(t:Fr):Int:=DA c t.src t.target
def nY(c:aq)(t:Fr)(x:Int):Prop:=0<=t.target/\bx c (rZ c t) x=true
def VY(c:aq)(mem:List ed)(t:Fr)(x:Int):Prop:=0<=t.target/\Gr c (n7 c (q9 c t.target mem) (rZ c t)) x
def iN(c:aq)(act:List Int)(mem:List ed)(a:List Nat)(x:Int):Prop:=(x∈act/\ ∀n∈a,¬nY c (dw c n) x)\/ ∃n∈a,VY c mem (dw c n) x
def EU{c:aq}(h:cD c){d:Int}{P:List Int}(m: ∀k∈P,bx c d k=true){x:Int}(g:Gr c P x):bx c d x=true:=by
 have a:=h.toRight
 induction g with
 |base n=>exact m _ n
 | ini g j o l e=>
   have b:=lR h j l;obtain⟨f,i,_⟩:=bP a b;exact(ag a f).2 (.inr (by rw[i];exact e))
 | par g j b e=>
   obtain⟨f,i,_⟩:=bP a b;exact(ag a f).2 (.inr (by rw[i];exact e))
def MP{c:aq}{act:List Int}{a b:Nat}{x:Int}(d:x∈iS c act (dw c a))(e:x∈iS c act (dw c b)):eQ c act a b=true:=by
 unfold eQ;rw[P1];exact⟨x,d,OQ.2 e⟩
structure Vw(c:aq)(act:List Int)(mem:List ed)(t:Fr):Prop where
 src:t.src∈act
 bel:0<=t.target->bx c (rZ c t) t.src=true
 dom:0<=t.target->rZ c t= -1\/(rZ c t∈act/\bD c (rZ c t)=true)
 uni:0<=t.target->Wb c (rZ c t) (n7 c (q9 c t.target mem) (rZ c t))
 left: ∀x,x∈iS c act t↔x∈act/\nY c t x
 to: ∀x,x∈zL (tD c t mem)↔VY c mem t x
def xz{c:aq}(h:cD c){act:List Int}(p:F' c act=true){mem:List ed}(m:bu c mem=true){n:Nat}{t:Fr}(r:c.trans[n]? =some t)(b:t.src∈act):Vw c act mem t:=by
 obtain⟨i,u⟩:=h.src r;have k:=eW p;have f:0<=t.target->fe c t.target=true:=fun a=>u.resolve_left (by omega);refine⟨b,fun a=> ?_,fun a=> ?_,fun a=> ?_,fun x=> ?_,fun x=> ?_⟩
 ·exact OQ.2 (vJ h i (f a)).2.1
 ·obtain⟨_,d2,d3⟩:=vJ h i (f a);exact d3.imp id fun e=>⟨k.up h.toRight (t.src.toNat+1) t.src _ (by have:=(aJ.1 i).1;omega) b d2 e.1,e.2⟩
 ·obtain⟨d1,_,d3⟩:=vJ h i (f a);exact uO h (f a) m d1 (by unfold rZ;rcases d3 with e|e<;>omega)
 ·by_cases a:0<=t.target
  ·unfold iS;rw[OK (by omega),TU];unfold Vq
   rw[OY,jY h.toRight fun y g=>by
    obtain⟨_,_,f,_⟩:=k.of g
    exact f]
   exact⟨fun q=>⟨q.1,a,q.2⟩,fun q=>⟨q.1,q.2.2⟩⟩
  unfold iS nY;rw[OL (by omega)];simp[a]
 by_cases a:0<=t.target
 ·obtain⟨d1,_,d3⟩:=vJ h i (f a);have s:=uO h (f a) m d1 (by rcases d3 with e|e<;>omega);have j: ∀y∈n7 c (q9 c t.target mem) (DA c t.src t.target),fe c y=true:=fun y g=>ah (s.bel y g);have o:=(iy (c:=c) (d:=DA c t.src t.target) (l:=q9 c t.target mem)).1;unfold tD L8 VY rZ;rw[OK (by omega),jY h.toRight fun y g=>((gJ h o).1 g).in h j,gJ h o];exact⟨fun q=>⟨a,q⟩,fun q=>q.2⟩
 unfold tD VY;rw[OL (by omega)];simp[a,zL]
def CN{c:aq}(h:cD c){act:List Int}{mem:List ed}{a b:Nat}(f:Vw c act mem (dw c a))(j:Vw c act mem (dw c b))(m:eQ c act a b=false){x:Int}(d:nY c (dw c a) x)(i:nY c (dw c b) x):False:=by
 have k:=h.toRight
 have g: ∀y,y∈act->nY c (dw c a) y->nY c (dw c b) y->False:=fun y l o p=>by
  have:=MP ((f.left y).2 ⟨l,o⟩) ((j.left y).2 ⟨l,p⟩);rw[m]at this;cases this
 have n:=aJ.1 (ah d.2);rcases qE k (c.Z9.length) x n.2 (OQ.1 d.2) (OQ.1 i.2) with e|e|e
 ·exact g _ f.src ⟨d.1,f.bel d.1⟩ ⟨i.1,by rw[<-e];exact f.bel d.1⟩
 ·exact g _ j.src ⟨d.1,ix k (OQ.2 e) (j.bel i.1)⟩ ⟨i.1,j.bel i.1⟩
 exact g _ f.src ⟨d.1,f.bel d.1⟩ ⟨i.1,ix k (OQ.2 e) (f.bel d.1)⟩
def Fit.front{c:aq}{act:List Int}{l:List Nat}{n:Nat}(h:Fit c act (l++[n])):Fit c act l/\ ∀k∈l,eQ c act k n=false:=by
 obtain⟨a,_,b⟩:=Qs.1 h.two;exact⟨⟨fun m e=>h.real m (PN _ e),a⟩,fun k d=>(b k d n (by simp)).2⟩
def sk{c:aq}(h:cD c){act:List Int}(j:F' c act=true){mem:List ed}(D:bu c mem=true): ∀(m:Nat)(r:List Nat),r.length=m->Fit c act r-> ∃O:List Nat,O.Pairwise (· < ·)/\F' c (zL O)=true/\ ∀x,x∈zL O↔iN c act mem r x
 | 0,r,a,z=>by
   obtain rfl:r=[]:=QV.1 a;have N:=eW j;obtain⟨l,e,hk⟩:=yM j
   have P:l.Pairwise (· < ·):=by
    have:=N.ZY;rw[e]at this;unfold zL at this;exact(Rq.1 this).imp fun h=>by omega
   exact⟨l,P,by rw[<-e];exact j,fun x=>by rw[<-e];simp[iN]⟩
 | m+1,r,a,z=>by
   rcases List.eq_nil_or_concat r with rfl|⟨l,n,rfl⟩
   ·simp at a
   rw[List.concat_eq_append]at z a |-;obtain⟨u,v⟩:=z.front;obtain⟨O,S,L,G⟩:=sk h j D m l (by simpa using a) u;obtain⟨t,J,w⟩:=z.real n (by simp);have i:=xz h j D J w
   have o: ∀k∈l,Vw c act mem (dw c k):=fun k hk=>by
    obtain⟨T,y,E⟩:=u.real k hk;rw[fF y];exact xz h j D y E
   rw[<-fF J]at i;by_cases b:0<=(dw c n).target
   ·have B:=eW L;have K:=i.uni b;have s: ∀k∈l,∀x,VY c mem (dw c k) x->nY c (dw c k) x:=fun k hk x q=>⟨q.1,EU h ((o k hk).uni q.1).bel q.2⟩
    have M:rZ c (dw c n)= -1\/(rZ c (dw c n)∈zL O/\bD c (rZ c (dw c n))=true):=by
     refine(i.dom b).imp id fun e=>⟨(G _).2 (.inl ⟨e.1,fun k hk a=> ?_⟩),e.2⟩;exact CN h (o k hk) i (v k hk) (x:=(dw c n).src) ⟨a.1,ix h.toRight a.2 (i.bel b)⟩ ⟨b,i.bel b⟩
    classical
    let H:List Nat:=(List.range c.Z9.length).filter fun k:Nat=>decide (iN c act mem (l++[n]) (k:Int))
    have A: ∀x,iN c act mem (l++[n]) x->fe c x=true:=fun x d=>by
     rcases d with⟨d,_⟩|⟨k,hk,q⟩
     ·obtain⟨_,_,A,_⟩:=(eW j).of d;exact A
     rcases Of.1 hk with hk|hk
     ·exact ah (s k hk x q).2
     rw[O2.1 hk]at q;exact ah (EU h K.bel q.2)
    have f: ∀x,x∈zL H↔iN c act mem (l++[n]) x:=fun x=>by
     constructor
     ·intro d;obtain⟨k,hk,rfl⟩:=OW.1 d;simpa using (OY.1 hk).2
     intro d;obtain⟨k,rfl⟩: ∃k:Nat,x=k:=⟨x.toNat,by have:=aJ.1 (A x d);omega⟩;exact OW.2 ⟨k,OY.2 ⟨Oh.2 (ak.1 (A _ d)),by simpa using d⟩,rfl⟩
    refine⟨H,Cc,(Cy h B K M Cc fun x=> ?_).1,f⟩;rw[f,G];constructor
    ·rintro(⟨p,g⟩|⟨k,hk,q⟩)
     ·refine .inl ⟨.inl ⟨p,fun k hk=>g k (PN _ hk)⟩,?_⟩;cases C:bx c (rZ c (dw c n)) x
      ·rfl
      exact absurd ⟨b,C⟩ (g n (by simp))
     rcases Of.1 hk with hk|hk
     ·refine .inl ⟨.inr ⟨k,hk,q⟩,?_⟩;cases C:bx c (rZ c (dw c n)) x
      ·rfl
      exact(CN h (o k hk) i (v k hk) (s k hk x q) ⟨b,C⟩).elim
     rw[O2.1 hk]at q;exact .inr q.2
    rintro(⟨⟨p,g⟩|⟨k,hk,q⟩,I⟩|q)
    ·refine .inl ⟨p,fun k hk a=> ?_⟩;rcases Of.1 hk with hk|hk
     ·exact g k hk a
     rw[O2.1 hk]at a;rw[a.2]at I;cases I
    ·exact .inr ⟨k,PN _ hk,q⟩
    exact .inr ⟨n,by simp,b,q⟩
   refine⟨O,S,L,fun x=> ?_⟩;rw[G];have Q: ¬nY c (dw c n) x:=fun q=>b q.1;have R: ¬VY c mem (dw c n) x:=fun q=>b q.1;constructor
   ·rintro(⟨p,g⟩|⟨k,hk,q⟩)
    ·refine .inl ⟨p,fun k hk=> ?_⟩;rcases Of.1 hk with hk|hk
     ·exact g k hk
     rw[O2.1 hk];exact Q
    exact .inr ⟨k,PN _ hk,q⟩
   rintro(⟨p,g⟩|⟨k,hk,q⟩)
   ·exact .inl ⟨p,fun k hk=>g k (PN _ hk)⟩
   rcases Of.1 hk with hk|hk
   ·exact .inr ⟨k,hk,q⟩
   rw[O2.1 hk]at q;exact absurd q R
end
section
def KV{c:aq}(h:(qs c).1=0):c.vars.length<=8/\ ∀v∈c.vars,aL v.start=true:=by
 unfold qs at h;split at h
 ·simp at h
 rename_i e;split at h
 ·simp at h
 split at h
 ·simp at h
 rename_i b;refine⟨by omega,fun v d=> ?_⟩;obtain⟨k,a,rfl⟩:=Pe d;have:=cX b k a;unfold jq qI at this;rw[OE a]at this;simp only[OJ,OR]at this;rw[bm];exact⟨this.1.2,this.2⟩
def g5(c:aq):dg:=⟨[],c.vars.map (·.start),[],[],false,[],[]⟩
def o6{c:aq}(b: ∀v∈c.vars,aL v.start=true):fy c (g5 c):=⟨by unfold g5;simp,fun x d=>by
 obtain⟨v,a,rfl⟩:=OW.1 d
 exact b v a,⟨.nil,by simp[g5]⟩,by simp[g5],by simp[g5],by simp[g5],by simp[g5]⟩
def LR{c:aq}(h:cD c):kf c (-1)=Vl c (Tr c):=by
 obtain⟨s,d,a,_⟩:=h.topS;have b:=(OG.1 d).1;have e:fe c c.initial=true:=by rw[a];exact ak.2 b
 unfold kf;simp only[PW];rw[e,OL rfl];rfl
def Ak{c:aq}(h:cD c){k:Nat}(a:k∈kf c (-1)):k<c.Z9.length:=by
 obtain⟨s,d,_⟩:=h.topS;have b:=(OG.1 d).1;rw[LR h,Kl h b, <-j9 h]at a;exact Oh.1 (OY.1 a).1
def zr{c:aq}(h:cD c):sM c (kf c (-1))=rR c:=by
 rw[LR h];unfold sM rR;apply QK;intro k _;rw[PC,yU,decide_eq_true_iff]
def qK{c:aq}(h:cD c){a:Int}(n:0<=a/\a<=1099511627776)(o: ∀v∈c.vars,aL v.start=true)(m:(bA c 0 a (g5 c) [] (zL (kf c (-1)))).1.2=none):F' c (bA c 0 a (g5 c) [] (zL (kf c (-1)))).1.1.act=true/\(bA c 0 a (g5 c) [] (zL (kf c (-1)))).1.1.act=zL (sM c (kf c (-1))):=by
 obtain⟨_,k⟩:=jO (cc h) (l:=zL (kf c (-1))) (f:=[]) (show aL 0=true by rfl) n (o6 o) .nil;have i:=k m;have g:=AK h;rw[<-zr h]at g
 have e:(bA c 0 a (g5 c) [] (zL (kf c (-1)))).1.1.act=zL (sM c (kf c (-1))):=pK i.ZY (by unfold sM;exact EY) fun x=>by
  rw[i.mem];simp only[g5,List.not_mem_nil,false_or];constructor
  ·intro d;obtain⟨j,b,rfl⟩:=OW.1 d;refine OW.2 ⟨j,OY.2 ⟨Oh.2 ?_,yU.2 b⟩,rfl⟩;exact Ak h b
  intro d;obtain⟨j,b,rfl⟩:=OW.1 d;exact OW.2 ⟨j,yU.1 (OY.1 b).2,rfl⟩
 exact⟨by rw[e];exact g,e⟩
def sf(env:b7)(a:Int):cy prog env 110 [I a] (B (decide (0<=a/\a<=1099511627776))):=by
 by_cases b:0<=a
 ·by_cases c:a<=1099511627776
  ·have k:decide (0<=a/\a<=1099511627776)=true:=by simp[b,c]
   rw[k];refine qf func110 call110 ntmps110 results110 ?_;have F:=ai b c;exact fl
  have k:decide (0<=a/\a<=1099511627776)=false:=by simp[c]
  rw[k];refine qf func110 call110 ntmps110 results110 ?_;have F:=ai b c;exact fl
 have k:decide (0<=a/\a<=1099511627776)=false:=by simp[b]
 rw[k];refine qf func110 call110 ntmps110 results110 ?_;have F:=b;exact fl
def vB(a b:Addr):dg×M'->AV
 |(r,none)=> .tuple [.agg [cI r.act,cI r.vars, .seq 2 (r.mem.map fi), .seq 2 (r.Z4.map ew),B r.over], .agg [cI r.outs, .seq 2 (r.Z1.map ew)],gc]
 |(_,some e)=> .tuple [.agg [gb,gb,gb,gb,B false], .agg [gb,gb],dj (-1) (cj a b (some e))]
def EI(env:b7)(u g h:Addr)(c:aq)(b:Int)(E:I' env u g h c 0 b)(w: ∀v∈c.vars,aL v.start=true):cy prog env 54 [aH c,I b] (vB g h (cK c b)):=by
 have K:=E.hs.vars;have f0:=sf env b;rw[Ou E.hn]at f0;have f1:=ap env c E.hs;have f2:=pZ env c E.hs;have f3:=((xW env c E.h (-1)).lend (cA (fun _=>rfl) _)).seen
 have t:(kf c (-1)).length<=1000:=by
  rw[LR E.h];have:=EK E.h (Tr c);omega
 have f4:=wz env u g h c 0 b E (g5 c) (o6 w) .nil (O6 _) (kf c (-1)) (fun i H=>Ak E.h H) t (fun C=>(qK E.h E.hn w C).1);unfold cK;rw[show (⟨[],c.vars.map (·.start),[],[],false,[],[]⟩:dg)=g5 c from rfl];generalize kf c (-1)=G at*;unfold aH at f1 f3 |-;unfold aA at f1 f2;have A: ∀k,k<=c.vars.length->((c.vars.take k).map (·.start)).length=k:=fun k Q=>by simp;omega
 refine qf func54 call54 ntmps54 results54 ?_;repeat refine Md f0 f1 f2 ?_
 refine VP 29 9001 0 0 3 1 ?_;refine VP 29 9002 0 1 3 1 ?_;refine VP 29 9006 0 2 93 2 ?_;refine VP 29 9003 0 3 95 2 ?_;refine VP 29 9004 0 5 3 1 ?_;refine VP 29 9005 0 6 81 2 ?_;refine dH [(9006,⟨2,[],93,true⟩)] ?_ ?_
 ·exact Wg
 refine aN (D:=Nat) (fun j f=>[(0, .ref 9 [aK c] 0 0),(4, .loc 4 (f 4) 0 0),(5, .loc 5 (f 5) 0 0),(6,gc),(7, .loc 29 (f 29) 0 0),(34,ur c.vars),(35,I c.vars.length),(36,I j)]) (fun j f=>[(4,⟨5,[[gb,gb,gb,gb,B false]],39,false⟩),(5,⟨2,[[gb,gb]],138,false⟩),(29,⟨15,[[.row 9001 (f 9001), .row 9002 (f 9002), .seq 2 [], .row 9003 (f 9003),B false, .row 9004 (f 9004), .row 9005 (f 9005), .ref 9 [aK c] 0 0,Sg c.name,I c.initial,ur c.vars,u6 c.Z9,CD c.trans,I 0,I b]],189,false⟩),(9001,⟨1,[],3,true⟩),(9002,⟨1,((c.vars.take j).map (·.start)).map aa,3,true⟩),(9003,⟨2,[],95,true⟩),(9004,⟨1,[],3,true⟩),(9005,⟨2,[],81,true⟩)]) (fun j _ a=>j<=c.vars.length/\a 4=false/\a 5=false/\a 29=false/\a 9001=false/\a 9002=false/\a 9003=false/\a 9004=false/\a 9005=false) (fun j=>c.vars.length-j) 0 ?_ ?_ ?_ ?_
 ·refine⟨O6 _,?_⟩;simp only[l5,th,iE,Sd,Tq,go_sem];try simp
 ·simp only[l5,th,iE,Row.see,AV.see,AV.see.seeL,R9,Pk,go_sem];try rfl
 ·simp only[l5,th,iE,Row.see,AV.see,AV.see.seeL,R9,Pk,go_sem];try rfl
 rintro j S O ⟨J,o,p,d,l,m,n,q,r⟩;by_cases e:j<c.vars.length
 ·obtain⟨v,x⟩:=gE e;have s:=mc e;have L:=aD e (by omega);have M:ek (((c.vars.take j).map (·.start)).length+1) 8:=by rw[A j J];exact aG (by omega) (by omega)
  have N:((c.vars.take (j+1)).map (·.start)).map aa=((c.vars.take j).map (·.start)).map aa++[[I v.start]]:=by rw[dF x];simp
  generalize P:(c.vars.take j).map (·.start)=U at*;have F:=fb Xc x s L M o p d l m n<|ai q r;repeat refine st ?_
  refine⟨j+1,⟨e,?_⟩,?_,?_,by omega⟩
  ·simp only[go_sem,o,p,d,l,m,n,q,r,O8]
  ·exact qe
  simp only[N];exact qe
 obtain rfl:j=c.vars.length:=by omega
 have s:=nl c.vars.length;have z:((c.vars.take c.vars.length).map (·.start)).map aa=(g5 c).vars.map aa:=by rw[Ob];rfl
 generalize ip c 0 b (g5 c) (zL G)=X at*;rcases X with⟨R,_|⟨k,y⟩⟩
 ·unfold vB;unfold cj RY la at f4;simp only at f4;simp only[z];have F:=fb WL WM g5.eq_1 s o p d l m n q r;repeat refine st ?_
  refine lL f3 ?_;repeat refine st ?_
  refine iL [(1000,29),(1001,9001),(1002,9002),(1003,9003),(1004,9004),(1005,9005)] f4 ?_;exact fl
 unfold vB;unfold cj RY la at f4;simp only at f4;unfold cj;simp only;have f5:=du env [109,105,99,114,111,46,70,105,114,115,116] (y.headD (-1)) (ik y.tail (b6 (if k=2 then g else h)));simp only[z];have F:=fb WL WM g5.eq_1 s o p d l m n q r;repeat refine st ?_
 refine lL f3 ?_;repeat refine st ?_
 refine iL [(1000,29),(1001,9001),(1002,9002),(1003,9003),(1004,9004),(1005,9005)] f4 ?_;exact nb f5
end
end Go.Proofs.YtfcdkaolcdglmaaGreatDoor
