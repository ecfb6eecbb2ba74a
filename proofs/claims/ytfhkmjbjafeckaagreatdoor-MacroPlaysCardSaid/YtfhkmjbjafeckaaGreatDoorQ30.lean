/- An instance in the midst of a step: transitions that may be taken together. -/
import Derived.Test.YtfhkmjbjafeckaaGreatDoorQ29
set_option maxRecDepth 100000
set_option maxHeartbeats 16000000
set_option linter.unusedSimpArgs false
set_option linter.defProp false
namespace Go.Proofs.YtfhkmjbjafeckaaGreatDoor
open Go.Proofs.Tryz
open Go.RowKit
section
def E3(env:cf)(d e:Addr)(p:gb env d e)(c:aq)(h:ct c)(b:hP c)(act:List Int)(j:act.length<=1000000)(k:Nat)(t:tS)(l:c.trans[k]? =some t)(o:tU c act=true)(f: ¬t.target<0):
 i9 prog env 235 [1001,35] (fun i=>i==35) (fun g=>[aG c, .row 1001 (g 1001),I k]) (fun _=>[(1001,⟨1,act.map aa,3,true⟩)]) (fun _=>[(1001,⟨1,act.map aa,3,true⟩),(35,⟨1,(fy c act t).map aa,3,true⟩)]) (fun g=> .tuple [.row 35 (g 35),ik]):=by
 have f0:=cj env d e p c h b act j;have f1:=oe env c b k t l;have f2:=ng env c h.toRight b t (h.src l).1;have f3:=(Bq env c h.toRight act j (n5 c t.src t.target)).lend (al (fun _=>rfl) _);unfold wC at f0;rw[o]at f0;simp only[Nn]at f0;have f0:=f0.lend rfl;unfold fy;rw[Mv f];unfold ax at f1 f2;unfold aG at f0 f1 f2 f3 |-;generalize (IN c act (n5 c t.src t.target)).reverse=R at*;refine qi func235 call235 ntmps235 results235 ?_;intro q n a;have m:=a 1001 (by simp);have F:=ai f m;repeat refine st ?_
 refine lL f0 ?_;repeat refine y3 f1 f2 ?_
 refine lL f3 ?_;repeat refine st ?_
 exact rI
/-! A step in which nothing is done: the chart of awake -/
end
section
def wB(env:cf)(G:List Int)(a:G.length<=1000000)(i:Int):b8 prog env 237 [I i, .ref 1 [[.seq 1 (G.map aa)]] 0 0] (B (G.contains i)):=by
 have f0:=bI env G i a;refine qf func237 call237 ntmps237 results237 ?_;repeat refine jG f0 ?_
 exact px
def gG{c:aq}(h:ct c)(act:List Int)(t:tS):(fy c act t).length<=32:=by
 unfold fy;split
 ·simp
 rw[Oj];unfold IN;exact NN (NV ..) (by rw[ar];exact cQ h.toRight act)
def o4(env:cf)(j k:Addr)(n:gb env j k)(c:aq)(h:ct c)(p:hP c)(act:List Int)(o:act.length<=1000000)(m:tU c act=true)(a b:Nat)(q:a<c.trans.length)(l:b<c.trans.length):b8 prog env 193 [aG c,bs act,I a,I b] (B (bd c act a b)):=by
 obtain⟨g,e⟩:=gE q;obtain⟨d,f⟩:=gE l;have f0:=yK env j k n c h p act o a g e m;have f1:=yK env j k n c h p act o b d f m;have r:=gG h act g;have s:=gG h act d;have f2:=ku env (fy c act g) (fun i=>(fy c act d).contains i) 237 [[.seq 1 ((fy c act d).map aa)]] (fun i=>wB env (fy c act d) (by omega) i) (by omega);unfold bd;rw[dD e,dD f];generalize fy c act g=A at*;generalize fy c act d=C at*;unfold aG at f0 f1 |-;refine qf func193 call193 ntmps193 results193 ?_;repeat refine sL f0 f1 ?_
 refine S3 f2 ?_;repeat refine nw ?_
 exact px
def Bw{c:aq}{act:List Int}{l:List Nat}{n k:Nat}(b:k∈l)(h:ln c act n k=false):l' c act l n=l:=by
 unfold l';rw[Mv];intro a;rw[NB.1 a k b]at h;cases h
def Ij(env:cf)(H J:Addr)(R:gb env H J)(c:aq)(h:ct c)(W:hP c)(x:tD)(d:Int)(O:E7 c x d)(l:List Nat)(Z:l.length<=1000)(z: ∀n∈l,n<c.trans.length)(n:Nat)(A:n<c.trans.length):
 b8 prog env 137 [.ref 15 [Sd c x d] 0 0, .seq 1 (l.map aB),I n] (.seq 1 ((l' c x.1 l n).map aB)):=by
 have M:=h.Z6;have f0:=fun k z=>o4 env H J R c h W x.1 (by have:=O.act;omega) O.lg k n z A;have f1:=bP env c;have f2:=fun i k=>fQ env c h.toRight i k;obtain⟨G,q⟩:=gE A;have P:=ip A;unfold aQ at f1 f2;unfold aG at f0 f1;refine qf func137 call137 ntmps137 results137 ?_;repeat refine nw ?_
 refine ap 7 7 3 1 ?_;refine TW (D:=Nat) (fun j X=>[(0, .ref 15 [Sd c x d] 0 0),(1, .seq 1 (l.map aB)),(2,I n),(7, .row 7 (X 7)),(10, .seq 1 (l.map aB)),(11,I l.length),(12,I j)]) (fun j _=>[(7,⟨1,((l.take j).filter fun k=> !bd c x.1 k n).map aB,3,true⟩)]) (fun j _ s=>(j<=l.length/\(l.take j).all (ln c x.1 n)=true)/\s 7=false) (fun j=>l.length-j) 0 ⟨⟨NJ _,rfl⟩,rfl⟩ ?_;rintro j ws s ⟨⟨Y,f⟩,r⟩;have S:((l.take j).filter fun k=> !bd c x.1 k n).length<=l.length:=NN (NV ..) (by rw[NK];omega);have y:dd (((l.take j).filter fun k=> !bd c x.1 k n).length+1) 8:=aC (by omega) (by omega);by_cases m:j<l.length
 ·obtain⟨k,g⟩:=gE m;have v:=My g;have o:=z k v;obtain⟨E,p⟩:=gE o;have w:=ip m;have B:=aD m (by omega);have C:=ip o;have f3:=f0 k o;have f4:=f2 E.src G.src;have N:=bO g
  have e:((l.take (j+1)).filter fun k=> !bd c x.1 k n)=((l.take j).filter fun k=> !bd c x.1 k n)++if bd c x.1 k n=true then [] else [k]:=by
   rw[N,N6]
   congr 1
   cases U:bd c x.1 k n<;>simp[U]
  have a:ln c x.1 n k=(!bd c x.1 k n||b4 c E.src G.src):=by unfold ln;rw[dD p,dD q]
  have u: ∀b,ln c x.1 n k=b->(l.take (j+1)).all (ln c x.1 n)=b:=fun b Q=>by rw[N,QT,f];simp[Q]
  cases L:bd c x.1 k n with
  | false=>
    rw[L]at f3 e a;simp only[NW,OB]at e;have F:=qr UR Uu g w B C y r;repeat refine ff f3 ?_
    refine⟨j+1,⟨⟨m,u _ (by rw[a];rfl)⟩,by simp only[go_sem,r]⟩,?_,?_,by omega⟩
    ·exact qe
    have F:=gs Uu e @NC.{0,0};exact qe
  | true=>
    rw[L]at f3 e a;simp only[Nn,OM]at e;simp only[Oh,PF]at a;cases t:b4 c E.src G.src with
    | true=>
      rw[t]at f4 a;have F:=o' UR Uv Uu g p q w B C P r;repeat refine Sw f1 f3 f4 ?_
      refine⟨j+1,⟨⟨m,u _ a⟩,by simp only[go_sem,r]⟩,?_,?_,by omega⟩
      ·exact qe
      have F:=ai Uu e;exact qe
    | false=>
      rw[t]at f4 a;rw[Bw v a];have F:=o' UR Uv Uu g p q w B C P r;exact D0 f1 f3 f4
 obtain rfl:j=l.length:=by omega
 have w:=nl l.length;rw[NS]at f y;have V:l' c x.1 l n=(l.filter fun k=> !bd c x.1 k n)++[n]:=by unfold l';rw[Mw f]
 have T:(l' c x.1 l n).map aB=((l.filter fun k=> !bd c x.1 k n).map aB)++[[I (n:Int)]]:=by rw[V,NC];rfl
 rw[T,NS];generalize (l.filter fun k=> !bd c x.1 k n)=K at*;have F:=i0 Uu w y r;repeat refine st ?_
 refine fG (dg.frozen 7 6 ⟨1,K.map aB++[[I (n:Int)]],3,true⟩ rfl (Ng 0) (by simp only[go_sem]) (by simp only[go_sem])) ?_;exact aR
def M'(x:tD):Rc:=⟨0,0,0,x.1,x.2.1,x.2.2.1,x.2.2.2.1,x.2.2.2.2⟩
def FZ(x:tD):Du (M' x)=i' x:=rfl
def Ge(env:cf)(a b:Addr)(i:gb env a b)(c:aq)(h:ct c)(n:hP c)(x:tD)(f:Sp (M' x))(j: ∀t∈x.2.2.2.1,t.1.length<=9223372036854775807)(e: ∀m∈x.2.2.1,dd m.2.length 8)(o:List UInt8)(d:Int)(l:cq c (M' x)=true)(k:x.2.2.2.2=false)(g:aJ d=true):b8 prog env 133 [Sg o,aG c, .agg (i' x),I d] ik:=by
 have f0:=tP env a b i c h n (M' x) f j e;unfold tZ at f0;rw[Mw l,FZ]at f0;have f1:=dG env d;rw[g]at f1;unfold aG i' at f0 |-;refine qf func133 call133 ntmps133 results133 ?_;have F:=k;exact ns f0 f1
end
section
def BK(env:cf)(b d:Addr)(m:gb env b d)(c:aq)(h:ct c)(e:hP c)(act:List Int)(n:act.length<=1000000)(k:Nat)(t:tS)(o:c.trans[k]? =some t)(l:tU c act=true)(j:t.target<0):
 i9 prog env 235 [1001] (fun _=>false) (fun g=>[aG c, .row 1001 (g 1001),I k]) (fun _=>[(1001,⟨1,act.map aa,3,true⟩)]) (fun _=>[(1001,⟨1,act.map aa,3,true⟩)]) (fun _=> .tuple [b6,ik]):=by
 have f0:=cj env b d m c h e act n;have f1:=oe env c e k t o;unfold wC at f0;rw[l]at f0;simp only[Nn]at f0;have f0:=f0.lend rfl;unfold ax at f1;unfold aG at f0 f1 |-;refine qi func235 call235 ntmps235 results235 ?_;intro p i a;have f:=a 1001 (by simp);have F:=ai j f;repeat refine st ?_
 refine lL f0 ?_;repeat refine ff f1 ?_
 exact rI
def xV{c:aq}{act:List Int}{ts:List Nat}{j n:Nat}{t:tS}(a:ts[j]? =some n)(b:c.trans[n]? =some t):dj c act (ts.take (j+1))=dj c act (ts.take j)++fy c act t:=by
 unfold dj;rw[bO a,Oy];simp[dD b]
def sM{c:aq}{mem:List eg}{ts:List Nat}{j n:Nat}{t:tS}(a:ts[j]? =some n)(b:c.trans[n]? =some t):toR c mem (ts.take (j+1))=toR c mem (ts.take j)++m9 c t mem:=by
 unfold toR;rw[bO a,Oy];simp[dD b]
def yJ{c:aq}{d now:Int}{r:cD}{l:List Nat}{j n:Nat}{t:tS}(b:l[j]? =some n)(e:c.trans[n]? =some t):dW c d now r (l.drop j)=match mv c d now r t.Z1 with
 |(a,none)=>dW c d now a (l.drop (j+1))
 |x=>x:=by
 rw[aZ b]
 conv=>lhs;unfold dW
 rw[dD e];rcases mv c d now r t.Z1 with⟨a,_|_⟩<;>rfl
def Ex{c:aq}(h:ct c){n:Nat}{t:tS}(b:c.trans[n]? =some t):t.Z1.length<=32/\ ∀a∈t.Z1,gM c.vars.length c.Z9.length a=true:=by
 have:=h.tr n t b;unfold d9 eR at this;simp only[Mx,NI,NB]at this;exact this.1.2
def vF{c:aq}(h:ct c)(act:List Int): ∀ts:List Nat,(dj c act ts).length<=32*ts.length
 |[]=>NJ _
 | n::ts=>by
   have:=vF h act ts;have a:=gG h act (dl c n);unfold dj at this |-;rw[QZ,NA,NQ];omega
def Ea{c:aq}(h:ct c)(mem:List eg): ∀ts:List Nat,(toR c mem ts).length<=32*ts.length
 |[]=>NJ _
 | n::ts=>by
   have:=Ea h mem ts
   have a:(m9 c (dl c n) mem).length<=32:=by
    unfold m9 I2;split
    ·exact NJ _
    exact cQ h.toRight _
   unfold toR at this |-;rw[QZ,NA,NQ];omega
def Im(env:cf)(S a2 Q:Addr)(c:aq)(d now:Int)(E:zs env S a2 Q c d now)(r:cD)(T:fe c r)(hl:r.act.length<=100)(hb:tU c r.act=true)(hm:bm c r.mem=true)(hml:r.mem.length<=1000000)(hFm: ∀m∈r.mem,dd m.2.length 8)(ts:List Nat)(hts: ∀n∈ts,∃t,c.trans[n]? =some t)(htl:ts.length<=64)
 (hgo: ∀x∈zL (b7 c (dj c r.act ts)),x∈r.act)(hmem:bm c (nr c r.act (zL (b7 c (dj c r.act ts))) r.mem)=true)(O:(nr c r.act (zL (b7 c (dj c r.act ts))) r.mem).length<=1000000/\ ∀m∈nr c r.act (zL (b7 c (dj c r.act ts))) r.mem,dd m.2.length 8)
 (H: ∀r2:cD,fe c r2->r2.act=r.act.filter (fun k=> !(zL (b7 c (dj c r.act ts))).reverse.contains k)->(ak c d now r2 [] (zL (b7 c (zL (toR c (nr c r.act (zL (b7 c (dj c r.act ts))) r.mem) ts))))).1.2=none->tU c (ak c d now r2 [] (zL (b7 c (zL (toR c (nr c r.act (zL (b7 c (dj c r.act ts))) r.mem) ts))))).1.1.act=true):
 i9 prog env 196 [1000,1001,1002,1003,1004,1005] pi (fun g=>[.loc 1000 (g 1000) 0 0, .seq 1 (ts.map aB)]) (RY c d now r) (RY c d now (md c d now r ts).1) (fun _=>cr a2 Q (md c d now r ts).2):=by
 have hfew:=E.h.Z6;have hftr:=E.h.ZO;have hA:=bL E.h;have C:=(cx hb).ZZ;have fT:=bP env c;have fL:=fun(n:Nat)(t:tS)(z:c.trans[n]? =some t)(Y: ¬t.target<0)=>E3 env S Q E.he c E.h E.hs r.act (by omega) n t z hb Y;have U:=fun(n:Nat)(t:tS)(z:c.trans[n]? =some t)(Y:t.target<0)=>BK env S Q E.he c E.h E.hs r.act (by omega) n t z hb Y;have hlf:=fun t=>gG E.h r.act t;have hgl:=vF E.h r.act;have fS:=(gB env c E.h.toRight (dj c r.act ts) (by have:=hgl ts;omega)).lend (al (fun _=>rfl) _);have hSl:=cQ E.h.toRight (dj c r.act ts);have hSk:=fun(k:Nat)(hk:k∈b7 c (dj c r.act ts))=>lM E.h.toRight hk;have fR:=wF env S Q E.he c E.h E.hs r.act (zL (b7 c (dj c r.act ts))) (by omega) (by rw[ar];omega) r.mem hml hFm hb hm hgo;rw[bl]at fR;unfold md;simp only;generalize hM:nr c r.act (zL (b7 c (dj c r.act ts))) r.mem=e at*;generalize hGG:b7 c (dj c r.act ts)=G at*;have W:=fun(n:Nat)(t:tS)(z:c.trans[n]? =some t)=>E2 env S Q E.he c E.h E.hs e O.1 O.2 n t z hmem;have hto:=Ea E.h e;have hrev:(zL G).reverse=zL G.reverse:=by unfold zL;rw[List.map_reverse]
 rw[hrev]at H |-;have B:=H0 env S a2 Q c d now E { r with mem:=e } { T with } (by simp only;omega) G hSk (by omega);have kL:=lV hA (l:=zL G.reverse) E.hd E.hn (r:={ r with mem:=e }) { T with };have hal:=fun(r:cD) T hl (l:List la) hll ha=>zc env S a2 Q c d now E r T hl l hll ha;have hok:=fun(r:cD)(T:fe c r)(l:List la) ha=>jo E.hd E.hn (l:=l) T ha;have V:=((gB env c E.h.toRight (zL (toR c e ts)) (by rw[ar];have:=hto ts;omega)).lend (al (fun _=>rfl) _)).seen;rw[bl]at V;have hS2l:=cQ E.h.toRight (zL (toR c e ts));have hS2k:=fun(k:Nat)(hk:k∈b7 c (zL (toR c e ts)))=>lM E.h.toRight hk;have hen:=fun(r2:cD) T C hl H=>xq env S a2 Q c d now E r2 T C hl (b7 c (zL (toR c e ts))) hS2k (by omega) H;generalize hTT:b7 c (zL (toR c e ts))=T2 at*;unfold aQ at fT fS V;unfold aG at fT fL U fR W;refine qi func196 call196 ntmps196 results196 ?_;intro vs esc hesc;obtain⟨i,o,p,q,s,u⟩:=RT hesc;have F:=qs Ux Uw Uz i o p q s u;repeat refine st ?_
 refine ap 5 5 3 1 ?_;refine ap 6 6 3 1 ?_;refine lp (D:=Nat) (fun j b=>[(0, .loc 1000 (b 1000) 0 0),(1, .seq 1 (ts.map aB)),(5, .row 5 (b 5)),(6, .row 6 (b 6)),(21, .seq 1 (ts.map aB)),(22,I ts.length),(23,I j)]) (fun j b=>(5,⟨1,(dj c r.act (ts.take j)).map aa,3,true⟩)::(6,⟨1,[],3,true⟩)::RY c d now r b) (fun j b a=>j<=ts.length/\(b 1000=vs 1000/\b 1002=vs 1002)/\a 1000=false/\a 1001=false/\a 1002=false/\a 1003=false/\a 1004=false/\a 1005=false/\a 5=false/\a 6=false) (fun j=>ts.length-j) 0 ⟨NJ _,by simp only[go_sem,NH],by simp only[go_sem,i,o,p,q,s,u,NH]⟩ ?_;try clear i o p q s u
 rintro j ws es ⟨hj,⟨L,M⟩,i,o,p,q,s,u,N,y⟩;by_cases f:j<ts.length
 ·obtain⟨n,J⟩:=gE f;obtain⟨t,z⟩:=hts n (My J);have K:=ip f;have q2:=aD f (by omega);have hlft:=hlf t;have q4:(dj c r.act (ts.take (j+1))).map aa=(dj c r.act (ts.take j)).map aa++(fy c r.act t).map aa:=by rw[xV J z,NC]
  have q3:(dj c r.act (ts.take j)).length<=32*j:=NN (hgl _) (by rw[NK];omega);generalize dj c r.act (ts.take j)=A at*;by_cases Y:t.target<0
  ·have f0:=U n t z Y;have hz:fy c r.act t=[]:=by unfold fy;rw[Mw Y]
   rw[hz,O3,OM]at q4;have q5:dd A.length 8:=aC (by omega) (by omega);have F:=ed Ux Uw Uu Uz J K q2 q5 i o p<|ii q s u N y;repeat refine st ?_
   refine iL [(1001,1001)] f0 ?_;repeat refine st ?_
   refine⟨j+1,⟨f,by simp only[go_sem,L,M,NH],by simp only[go_sem,i,o,p,q,s,u,N,y,NH]⟩,?_,?_,by omega⟩
   ·exact qe
   simp only[q4];exact qe
  have f0:=fL n t z Y;have q5:dd (A.length+(fy c r.act t).length) 8:=aC (by omega) (by omega);generalize fy c r.act t=Lv at*;refine yE 9001 rfl ?_;have F:=ed Ux Uw Uu Uz J K q2 q5 i o p<|ii q s u N y;repeat refine st ?_
  refine iL [(1001,1001),(35,9001)] f0 ?_;repeat refine st ?_
  refine⟨j+1,⟨f,by simp only[go_sem,L,M,NH],by simp only[go_sem,i,o,p,q,s,u,N,y,NH]⟩,?_,?_,by omega⟩
  ·exact qe
  simp only[q4];exact qe
 obtain rfl:j=ts.length:=by omega
 have K:=nl ts.length;rw[NS];have F:=ed Ux Uw Uz K i o p q s u N y;repeat refine ff fT ?_
 refine lL fS ?_;repeat refine st ?_
 refine iL [(1001,1001),(1006,54)] fR ?_;repeat refine st ?_
 refine lp (D:=Nat) (fun j b=>[(0, .loc 1000 (b 1000) 0 0),(1, .seq 1 (ts.map aB)),(5, .row 54 (b 54)),(6, .row 6 (b 6)),(11,go e),(82, .seq 1 (ts.map aB)),(83,I ts.length),(84,I j)]) (fun j b=>(54,⟨1,G.map aB,3,true⟩)::(6,⟨1,(toR c e (ts.take j)).map aB,3,true⟩)::RY c d now { r with mem:=e } b) (fun j b a=>j<=ts.length/\(b 1000=vs 1000/\b 1002=vs 1002)/\a 1000=false/\a 1001=false/\a 1002=false/\a 1003=false/\a 1004=false/\a 1005=false/\a 54=false/\a 6=false) (fun j=>ts.length-j) 0 ⟨NJ _,by simp only[go_sem,L,M,NH],by simp only[go_sem,i,o,p,q,s,u,y,NH]⟩ ?_;try clear i o p q s u N y L M
 rintro j us fs ⟨hj,⟨L,M⟩,i,o,p,q,s,u,N,y⟩;by_cases f:j<ts.length
 ·obtain⟨n,J⟩:=gE f;obtain⟨t,z⟩:=hts n (My J);have K:=ip f;have q2:=aD f (by omega);have f0:=W n t z;have q4:(toR c e (ts.take (j+1))).map aB=(toR c e (ts.take j)).map aB++(m9 c t e).map aB:=by rw[sM J z,NC]
  have q3:(toR c e (ts.take j)).length<=32*j:=NN (hto _) (by rw[NK];omega);have q6:(toR c e (ts.take (j+1))).length<=32*(j+1):=NN (hto _) (by rw[NK];omega);rw[sM J z,NA]at q6;generalize m9 c t e=Tg at*;generalize toR c e (ts.take j)=A at*;have q5:dd (A.length+Tg.length) 8:=aC (by omega) (by omega);have F:=ed Ux Uw Uu Uz J K q2 q5 i o p<|ii q s u N y;repeat refine ff f0 ?_
  refine⟨j+1,⟨f,by simp only[go_sem,L,M,NH],by simp only[go_sem,i,o,p,q,s,u,N,y,NH]⟩,?_,?_,by omega⟩
  ·exact qe
  simp only[q4];exact qe
 obtain rfl:j=ts.length:=by omega
 have K:=nl ts.length;rw[NS];try clear fL U W fS fR
 rcases hX:bS c d now { r with mem:=e } (zL G.reverse) with⟨r1,_|⟨k,ps⟩⟩
 ·rw[hX]at B kL;obtain⟨kr,kmm,_,w⟩:=kL;have w:=w rfl;simp only at kr kmm w;have hact1:r1.act.length<=100:=by rw[w];exact NN (NV ..) hl
  have R:r1.act.Pairwise (· < ·):=by rw[w];exact C.sublist OT
  have Z: ∀r2:cD,fe c r2->r2.act=r1.act->(ak c d now r2 [] (zL T2)).1.2=none->tU c (ak c d now r2 [] (zL T2)).1.1.act=true:=fun r2 k1 k2=>H r2 k1 (by rw[k2,w]);unfold cr TC RY mc at B;simp only at B |-;have F:=ed Ux Uw Uz K i o p q s u N y;repeat refine st ?_
  refine iL [(1000,1000),(1001,1001),(1002,1002),(1003,1003),(1004,1004),(1005,1005),(1006,54)] B ?_;repeat refine st ?_
  refine lp (D:=Nat×cD) (fun x b=>[(0, .loc 1000 (b 1000) 0 0),(6, .row 6 (b 6)),(111, .seq 1 (ts.map aB)),(112,I ts.length),(113,I x.1)]) (fun x b=>(6,⟨1,(toR c e ts).map aB,3,true⟩)::RY c d now x.2 b) (fun x b a=>(x.1<=ts.length/\dW c d now r1 ts=dW c d now x.2 (ts.drop x.1)/\fe c x.2/\x.2.act=r1.act)/\(b 1000=vs 1000/\b 1002=vs 1002)/\a 1000=false/\a 1001=false/\a 1002=false/\a 1003=false/\a 1004=false/\a 1005=false/\a 6=false) (fun x=>ts.length-x.1) (0,r1) ⟨⟨NJ _,rfl,kr,rfl⟩,by simp only[go_sem,L,M,NH],by simp only[go_sem,i,o,p,q,s,u,y,NH]⟩ ?_;try clear i o p q s u N y L M
  rintro⟨j,r2⟩ us fs ⟨⟨hj,v,P,h⟩,⟨L,M⟩,i,o,p,q,s,u,y⟩;simp only at hj v P h;by_cases f:j<ts.length
  ·obtain⟨n,J⟩:=gE f;obtain⟨t,z⟩:=hts n (My J);obtain⟨s1,s2⟩:=Ex E.h z;have hn:=(Mt.1 z).1;have f0:=hal r2 P (by rw[h];omega) t.Z1 (by omega) s2;obtain⟨k1,k2⟩:=hok r2 P t.Z1 s2;have K:=ip f;have q2:=aD f (by omega);have q3:=ip hn;rw[yJ J z]at v;rcases hY:mv c d now r2 t.Z1 with⟨r3,_|⟨k,ps⟩⟩
   ·rw[hY]at v f0 k1 k2;simp only at v k1 k2;unfold cr RY mc at f0;simp only at f0;have F:=ed Ux Uw Uv Uu UG Uz J z K q2 q3<|m7 i o p q s u y;repeat refine st ?_
    refine iL L6 f0 ?_;repeat refine st ?_
    exact qn (j+1,r3) ⟨⟨f,v,k1,k2.act.trans h⟩,by simp only[go_sem,L,M,NH],by simp only[go_sem,i,o,p,q,s,u,y,NH]⟩
   rw[hY]at v f0;simp only at v;unfold cr RY mc at f0;simp only at f0;rw[v];show fq _ _ _ _ _ _;unfold cr;simp only;have F:=ed Ux Uw Uv Uu UG Uz J z K q2 q3<|qs L M i o p q s u y;repeat refine st ?_
   refine iL L6 f0 ?_;repeat refine st ?_
   exact rI
  obtain rfl:j=ts.length:=by omega
  have K:=nl ts.length;rw[OE]at v;rw[show dW c d now r2 []=(r2,none) from rfl]at v;rw[v];simp only;have f9:=hen r2 P (by rw[h];exact R) (by rw[h];omega) (Z r2 P h);generalize g5 c d now r2 (zL T2)=X at*;unfold RY mc at f9;have F:=ed Ux Uw Uz eu K L M i o p q<|gs s u y;repeat refine ff fT ?_
  refine lL V ?_;repeat refine st ?_
  refine iL L6 f9 ?_;repeat refine st ?_
  exact rI
 rw[hX]at B;unfold cr TC RY mc at B;simp only at B |-;show fq _ _ _ _ _ _;unfold cr;simp only;have F:=ed Ux Uw Uz K L M i o p q s<|gs u N y;repeat refine st ?_
 refine iL [(1000,1000),(1001,1001),(1002,1002),(1003,1003),(1004,1004),(1005,1005),(1006,54)] B ?_;repeat refine st ?_
 exact rI
end
section
def Jl(l:List Int)(x:Int):l.reverse.contains x=l.contains x:=by
 rw[N8,Mz,Mz,QL]
def Iq(c:aq)(act gone:List Int)(mem:List eg):DL c act gone.reverse mem=DL c act gone mem:=by
 have e:BY c act gone.reverse mem=BY c act gone mem:=by
  funext h
  unfold BY;split
  ·rw[Jl]
  rfl
 unfold DL eU;rw[e]
def Gl(env:cf)(l:List Int)(s:l.length<=4000)(n:Int):b8 prog env 120 [.seq 1 (l.map aa),I n] (.own 3 1 ((l.filter fun k=> !(k==n)).map aa)):=by
 refine qf func120 call120 ntmps120 results120 ?_;repeat refine nw ?_
 refine Q' l.length (by omega) (fun j m=>[(0, .seq 1 (l.map aa)),(1,I n),(5, .row 7 (m 7)),(6,I j)]) (fun j m=>[(7,⟨1,((l.take j).filter fun k=> !(k==n)).map aa,3,true⟩)]) (fun j _ g=>g 7=false) (by simp only[go_sem]) ?_ ?_
 ·rintro j r o b f i c;obtain⟨x,e⟩:=gE b;have p:((l.take j).filter fun k=> !(k==n)).length<=j:=NN (NV ..) (by rw[NK];omega);have q:dd (((l.take j).filter fun k=> !(k==n)).length+1) 8:=aC (by omega) (by omega);cases d:x==n with
  | true=>
    have h:(l.take (j+1)).filter (fun k=> !(k==n))=(l.take j).filter fun k=> !(k==n):=by rw[bO e,N6];simp[d]
    have a:(x != n)=false:=by unfold bne;rw[d];rfl
    have F:=kv UB e a f i c;repeat refine st ?_
    refine⟨j+1,⟨b,by simp only[go_sem,c]⟩,?_,?_,by omega⟩
    ·exact qe
    simp only[h];exact qe
  | false=>
    have h:((l.take (j+1)).filter (fun k=> !(k==n))).map aa=((l.take j).filter fun k=> !(k==n)).map aa++[aa x]:=by rw[bO e,N6];simp[d]
    have a:(x != n)=true:=by unfold bne;rw[d];rfl
    have F:=m7 UB e a f i q c;repeat refine st ?_
    refine⟨j+1,⟨b,by simp only[go_sem,c]⟩,?_,?_,by omega⟩
    ·exact qe
    simp only[h];exact qe
 rintro r o f c;rw[NS];have F:=ai f c;exact fc
def Ah(env:cf)(c:aq)(h:ct c)(d now:Int)(r:cD)(G:List Nat)(k:Nat)(ps:List Int)(e:((k:Int)==0)=false):b8 prog env 59 [.agg (aA c), .agg (fk r d now (some (k,ps))), .seq 1 (G.map aB)] (.agg (fk r d now (some (k,ps)))):=by
 have a:=si env c h;generalize g7 c (-1)=W at*;unfold fk;unfold aA at a;by_cases f:(0:Int)< (G.length:Int)
 ·by_cases b:(0:Int)< (W.length:Int)
  ·refine qf func59 call59 ntmps59 results59 ?_;have F:=i0 Us e f b;repeat (first|refine aT ?_|refine st ?_|refine cC a ?_|refine aO 40 ?_)
   exact aR
  refine qf func59 call59 ntmps59 results59 ?_;have F:=i0 Us e f b;repeat (first|refine aT ?_|refine st ?_|refine cC a ?_|refine aO 40 ?_)
  exact aR
 by_cases b:(0:Int)< (W.length:Int)
 ·refine qf func59 call59 ntmps59 results59 ?_;have F:=i0 Us e f b;repeat (first|refine aT ?_|refine st ?_|refine cC a ?_|refine aO 40 ?_)
  exact aR
 refine qf func59 call59 ntmps59 results59 ?_;have F:=i0 Us e f b;repeat (first|refine aT ?_|refine st ?_|refine cC a ?_|refine aO 40 ?_)
 exact aR
end
section
def Aa(c:aq)(act gone:List Int)(mem:List eg)(j:Nat):eU c act gone mem (j+1)=if (BY c act gone mem j).isEmpty=true then eU c act gone mem j else eU c act gone mem j++[((j:Int),BY c act gone mem j)]:=by
 unfold eU;rw[PO,N6,NC];cases a:(BY c act gone mem j).isEmpty<;>simp[a]
def DK(c:aq)(act gone:List Int)(mem:List eg)(j:Nat):(eU c act gone mem j).length<=j:=by
 unfold eU;rw[NT];exact NN (NV ..) (by rw[Pn];exact ND _)
def Do{p:Int->Bool}{K:List Int}{q:Nat}{u:Int}(h:K[q]? =some u):(K.take (q+1)).filter p=if p u=true then(K.take q).filter p++[u] else(K.take q).filter p:=by
 rw[N4,h,N6];cases a:p u<;>simp[a]
def An(act Z:List Int)(q:Nat):List Int:=(Z.take q).filter fun k=>act.contains k
def H8{act Z:List Int}{q:Nat}{u:Int}(h:Z[q]? =some u):An act Z (q+1)=if act.contains u=true then An act Z q++[u] else An act Z q:=Do h
def vi(env:cf)(c:aq)(h:ct c)(act gone:List Int)(Y:act.length<=1000000)(hz: ∀x∈act,0<=x)(L:gone.length<=1000000)(mem:List eg)(M:mem.length<=1000000):b8 prog env 118 [.agg (aA c), .seq 1 (act.map aa), .seq 1 (gone.map aa),go mem] (.own 146 2 ((DL c act gone mem).map fj)):=by
 have Z:=h.Z6;have T:=fun(i:Int)=>dI env c i true (by omega);have U:=fun(i:Int)=>oF env c h.toRight act Y hz i;have C:=fun(i:Int)=>(show (IN c act i).length<=32 from NN (NV ..) (by rw[ar];exact cQ h.toRight act));have S:=fun(i:Int)=>Af env c h (IN c act i) (by have:=C i;omega);unfold aA at T U S;show b8 _ _ _ _ (.own _ 2 ((eU c act gone mem c.Z9.length).map fj));refine qf func118 call118 ntmps118 results118 ?_;have F:=aA.eq_1;repeat refine st ?_
 have F:=aA.eq_1;refine lq c.Z9.length (by omega) (fun j m=>[(1, .seq 1 (act.map aa)),(2, .seq 1 (gone.map aa)),(3,go mem),(4, .loc 4 (m 4) 0 0),(9, .row 15 (m 15)),(10,I j)]) (fun j _=>[(4,⟨5,[aA c],26,false⟩),(15,⟨2,(eU c act gone mem j).map fj,146,true⟩)]) (fun j _ a=>a 15=false) rfl ?_ ?_
 ·rintro j ws a o z R b;obtain⟨s,t⟩:=gE o;have f0:=ce env s;have r:=Aa c act gone mem j;have hle:=DK c act gone mem j;have d:BY c act gone mem j=if aU s=true then(if gone.contains s.parent=true then(if s.kind=5 then zL (KG c (IN c act s.parent)) else(hH c s.parent).filter fun k=>act.contains k) else TX mem (j:Int)) else []:=by unfold BY;rw[t];rfl
  unfold aL at f0;generalize BY c act gone mem j=V at*;cases hm:aU s with
  | false=>
    rw[hm]at f0 d;rw[Mv Nb]at d;rw[d]at r;rw[Mw (show ([]:List Int).isEmpty=true from rfl)]at r;have F:=kv Us Ut t z R b;repeat refine ff f0 ?_
    refine⟨j+1,⟨o,by simp only[go_sem,b]⟩,?_,?_,by omega⟩
    ·exact qe
    have F:=ai Us r;exact qe
  | true=>
    rw[hm]at f0 d;rw[Mw rfl]at d;have f1:=FG env mem (j:Int) M;have f2:=dJ env gone s.parent L;have f3:=U s.parent;have f4:=S s.parent;have f5:=T s.parent;have hKl:=bU h.toRight s.parent true;have J: ∀(u:Int),_:=fun u=>dJ env act u Y;have G:hH c s.parent=zL (av c s.parent true):=rfl;generalize av c s.parent true=K at*;rw[G]at d;have F:=ii Us Ut t z b;repeat refine Sw f0 f1 f2 ?_
    refine Fv (D:=Unit) (fun _ m=>[(1, .seq 1 (act.map aa)),(2, .seq 1 (gone.map aa)),(3,go mem),(4, .loc 4 (m 4) 0 0),(9, .row 15 (m 15)),(10,I j),(12, .seq 1 (V.map aa))]) (fun _ _=>[(4,⟨5,[aA c],26,false⟩),(15,⟨2,(eU c act gone mem j).map fj,146,true⟩)]) (fun _ _ a=>a 15=false) ?_ ?_
    ·refine dy ?_;cases w:gone.contains s.parent with
     | false=>
       rw[w,Mv Nb]at d;rw[d];have F:=w;repeat refine st ?_
       refine⟨_,dg.refl _,(),by simp only[go_sem,b],?_,?_⟩
       ·exact qe
       have F:=aA.eq_1;exact qe
     | true=>
       rw[w,Mw rfl]at d;by_cases n:s.kind=5
       ·have B:(s.kind==5)=true:=by simp[n]
        rw[Mw n]at d;rw[d];have F:=i0 Us Ut w B;repeat refine y3 f3 f4 ?_
        refine⟨_,dg.frozen 47 12 ⟨1,(KG c (IN c act s.parent)).map aB,3,true⟩ rfl (Ng 0) (by simp only[go_sem]) (by simp only[go_sem]),(),by simp only[go_sem,b],?_,?_⟩
        ·have F:=bl;exact qe
        have F:=aA.eq_1;exact qe
       have B:(s.kind==5)=false:=by simpa using n
       rw[Mv n]at d;have F:=i0 Us Ut w B;repeat refine ff f5 ?_
       have F:=aA.eq_1;refine lq K.length (by omega) (fun q m=>[(1, .seq 1 (act.map aa)),(2, .seq 1 (gone.map aa)),(3,go mem),(4, .loc 4 (m 4) 0 0),(9, .row 15 (m 15)),(10,I j),(12, .row 52 (m 52)),(13, .row 51 (m 51)),(14,I q)]) (fun q _=>[(4,⟨5,[aA c],26,false⟩),(15,⟨2,(eU c act gone mem j).map fj,146,true⟩),(51,⟨1,K.map aB,3,true⟩),(52,⟨1,(An act (zL K) q).map aa,3,true⟩)]) (fun q _ a=>a 15=false/\a 52=false) ⟨by simp only[go_sem,b],by simp only[go_sem]⟩ ?_ ?_
       ·rintro q xs fs g A r2 ⟨p,v⟩;obtain⟨u,O⟩:=gE g;have y:=J (u:Int);have P:(zL K)[q]? =some (u:Int):=by unfold zL;rw[NE,O];rfl
        have f:=H8 (act:=act) P;have hkl:(An act (zL K) q).length<=32:=NN (NV ..) (by rw[NK];omega);have H:dd ((An act (zL K) q).length+1) 8:=aC (by omega) (by omega);generalize An act (zL K) q=X at*;cases W:act.contains (u:Int) with
        | false=>
          rw[W]at y f;rw[Mv Nb]at f;have F:=kv Uu O A r2 p v;repeat refine ff y ?_
          refine⟨q+1,⟨g,by simp only[go_sem,p],by simp only[go_sem,v]⟩,?_,?_,by omega⟩
          ·exact qe
          have F:=ai Us f;exact qe
        | true=>
          rw[W]at y f;rw[Mw rfl]at f;have F:=m7 Uu O A r2 p v H;repeat refine ff y ?_
          refine⟨q+1,⟨g,by simp only[go_sem,p],by simp only[go_sem,v]⟩,?_,?_,by omega⟩
          ·exact qe
          have F:=i0 Us Uu f @NC.{0,0};exact qe
       rintro xs fs A ⟨p,v⟩;have N:An act (zL K) K.length=V:=by unfold An;rw[Nu (by rw[ar];exact ND _)];exact d.symm
       rw[N];have F:=gs A p v;repeat refine st ?_
       refine⟨_,dg.frozen 52 12 ⟨1,V.map aa,3,true⟩ rfl (Ng 0) (by simp only[go_sem]) (by simp only[go_sem]),(),by simp only[go_sem,p],?_,?_⟩
       ·exact qe
       have F:=aA.eq_1;exact qe
    ·clear b;rintro-us es b;cases l:V.isEmpty with
     | true=>
       rw[l,Mw rfl]at r;have E:V.length=0:=by simpa using l
       have Q: ¬(0:Int)< (V.length:Int):=by omega
       have F:=gs Q R b;repeat refine st ?_
       refine⟨j+1,⟨o,by simp only[go_sem,b]⟩,?_,?_,by omega⟩
       ·exact qe
       have F:=ai Us r;exact qe
     | false=>
       rw[l,Mv Nb]at r
       have E:V.length≠0:=by
        intro e;rw[OZ.1 e]at l;cases l
       have Q:(0:Int)< (V.length:Int):=by omega
       have H:dd ((eU c act gone mem j).length+1) 32:=aC (by omega) (by omega);have F:=i0 Q R b H;repeat refine st ?_
       refine⟨j+1,⟨o,by simp only[go_sem,b]⟩,?_,?_,by omega⟩
       ·exact qe
       have F:=i0 Us UF r @NC.{0,0};exact qe
 rintro ws a z b;have F:=gs Us z b;exact fc
end
section
end
section
def lI(env:cf)(es:List (List AV))(c:dd es.length 8):b8 prog env 73 [.seq 1 es] (.own 3 1 es):=by
 cases es with
 | nil=>
   refine b8.empty fun A a=> ?_;cases A with
   | none=>
     refine qw func73 call73 ntmps73 results73 ?_;repeat refine nw ?_
     (refine aM ?_;refine⟨_,(by show (ag _ _ _).run _=some _;simp only[go_sem];rfl),?_⟩)
     exact fN.own_nil _ _ (by decide)
   | some A=>
     refine qf func73 call73 ntmps73 results73 ?_;repeat refine nw ?_
     exact px
 | cons d l=>
   have b:dd (l.length+1) 8:=c;refine qf func73 call73 ntmps73 results73 ?_;have F:=b;exact fc
def BD(env:cf)(es:List (List AV))(c:dd es.length 24):b8 prog env 74 [.seq 2 es] (.own 98 2 es):=by
 cases es with
 | nil=>
   refine b8.empty fun A a=> ?_;cases A with
   | none=>
     refine qw func74 call74 ntmps74 results74 ?_;repeat refine nw ?_
     (refine aM ?_;refine⟨_,(by show (ag _ _ _).run _=some _;simp only[go_sem];rfl),?_⟩)
     exact fN.own_nil _ _ (by decide)
   | some A=>
     refine qf func74 call74 ntmps74 results74 ?_;repeat refine nw ?_
     exact px
 | cons d l=>
   have b:dd (l.length+1) 24:=c;refine qf func74 call74 ntmps74 results74 ?_;have F:=b;exact fc
end
section
def LP(env:cf)(Y Z:Addr)(he:gb env Y Z)(c:aq)(h:ct c)(S:hP c)(d now:Int)(r:cD)(hl:r.act.length<=1000)(hb:tU c r.act=true)(l:List Nat)(M:Fit c r.act l)(hll:l.length<=1000):
 i9 prog env 195 [1000,1001,1002,1003,1004,1005] (fun _=>false) (fun g=>[.loc 1000 (g 1000) 0 0, .seq 1 (l.map aB)]) (RY c d now r) (RY c d now r) (fun _=>B true):=by
 have htr:=h.ZO
 have fC:=fun(n:Nat)(t:tS)(L:c.trans[n]? =some t)(R:t.src∈r.act)=>by
  have:=bI env r.act t.src (by omega);rw[Mz.2 R]at this;exact this.lend rfl
 have fK:=fun(a b:Nat) ha N=>(o4 env Y Z he c h S r.act (by omega) hb a b ha N).lend rfl;have K:=Nk.1 M.two;unfold aG at fK;refine qi func195 call195 ntmps195 results195 ?_;intro v esc H;obtain⟨m,o,p,q,s,u⟩:=RT H;have F:=qr Ux Uw m o p q s u;repeat refine st ?_
 refine lq l.length (by omega) (fun i e=>[(0, .loc 1000 (e 1000) 0 0),(1, .seq 1 (l.map aB)),(9, .seq 1 (l.map aB)),(10,I l.length),(11,I i)]) (fun i e=>RY c d now r e) (fun i e f=>(e 1000=v 1000/\e 1001=v 1001/\e 1002=v 1002/\e 1003=v 1003/\e 1004=v 1004/\e 1005=v 1005)/\f 1000=false/\f 1001=false/\f 1002=false/\f 1003=false/\f 1004=false/\f 1005=false) ⟨by simp only[go_sem,NH],by simp only[go_sem,m,o,p,q,s,u,NH]⟩ ?_ ?_
 ·try clear m o p q s u
  rintro i ws es x X q2 ⟨⟨y,z,A,C,E,G⟩,m,o,p,q,s,u⟩;obtain⟨n,V⟩:=gE x;obtain⟨t,L,R⟩:=M.real n (My V);have hn:=(Mt.1 L).1;have f0:=fC n t L R;have q3: ¬(n:Int)<0:=by omega
  have q4: ¬(c.trans.length:Int)<=(n:Int):=by omega
  have q5:(n:Int)< (c.trans.length:Int):=by omega
  have q6:(l.take i).length=i:=by rw[NK];omega
  have q7:(i:Int)<=(l.length:Int):=by omega
  have F:=ed Uv Uu Ux Uw V L X q3 q4 q5 q7<|kv m o p q s u;repeat refine st ?_
  refine lL f0 ?_;repeat refine st ?_
  generalize hT:l.take i=T at*;refine lp (D:=Nat) (fun j e=>[(0, .loc 1000 (e 1000) 0 0),(1, .seq 1 (l.map aB)),(6,I n),(9, .seq 1 (l.map aB)),(10,I l.length),(11,I i),(48, .seq 1 (T.map aB)),(49,I T.length),(50,I j)]) (fun j e=>RY c d now r e) (fun j e f=>j<=i/\(e 1000=v 1000/\e 1001=v 1001/\e 1002=v 1002/\e 1003=v 1003/\e 1004=v 1004/\e 1005=v 1005)/\f 1000=false/\f 1001=false/\f 1002=false/\f 1003=false/\f 1004=false/\f 1005=false) (fun j=>i-j) 0 ⟨NJ _,by simp only[go_sem,y,z,A,C,E,G,NH],by simp only[go_sem,m,o,p,q,s,u,NH]⟩ ?_;try clear m o p q s u y z A C E G
  rintro j us fs ⟨hj,⟨y,z,A,C,E,G⟩,m,o,p,q,s,u⟩;by_cases w:j<i
  ·obtain⟨k,O⟩: ∃a,T[j]? =some a:=⟨T[j]'(by omega),Ms (by omega)⟩;have J:l[j]? =some k:=by rw[<-hT,Na,Mw w]at O;exact O
   obtain⟨tk,U,_⟩:=M.real k (My J);have P:=(Mt.1 U).1;have Q:=K j i (by omega) x w;rw[(Mt.1 J).2,(Mt.1 V).2]at Q;have f1:=fK k n P hn;rw[Q.2]at f1;have W:(j:Int)< (T.length:Int):=by omega
   have p2:IntKind.i64.wrap ((j:Int)+1)=((j+1:Nat):Int):=aD (show j<l.length by omega) (by omega);have p3:((k:Int)==(n:Int))=false:=by have:=Q.1;simp;omega
   have F:=ed Uu Ux Uw O W p2 p3 m o p q<|ai s u;repeat refine st ?_
   refine lL f1 ?_;repeat refine st ?_
   exact qn (j+1) ⟨w,by simp only[go_sem,y,z,A,C,E,G,NH],by simp only[go_sem,m,o,p,q,s,u,NH]⟩
  obtain rfl:j=i:=by omega
  have W: ¬(j:Int)< (T.length:Int):=by omega
  have F:=mX Ux Uw W q2 m o p q s u;repeat refine st ?_
  exact qn (j+1) ⟨x,by simp only[go_sem,y,z,A,C,E,G,NH],by simp only[go_sem,m,o,p,q,s,u,NH]⟩
 try clear m o p q s u
 rintro ws es X ⟨⟨y,z,A,C,E,G⟩,m,o,p,q,s,u⟩;have F:=ed Ux Uw X y z A C E G m o<|i0 p q s u;repeat refine st ?_
 exact rI
end
end Go.Proofs.YtfhkmjbjafeckaaGreatDoor
