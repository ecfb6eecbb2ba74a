/- An instance in the midst of a step: transitions that may be taken together. -/
import Derived.Test.YtknkhdgfhbogdaaGreatDoorP29
set_option maxRecDepth 100000
set_option maxHeartbeats 16000000
set_option linter.unusedSimpArgs false
set_option linter.defProp false
namespace Go.Proofs.YtknkhdgfhbogdaaGreatDoor
open Go.Proofs.Tryz
open Go.RowKit
section
def DO(env:b6)(d e:Addr)(p:fq env d e)(c:aq)(h:b8 c)(b:g6 c)(act:List Int)(j:act.length<=1000000)(k:Nat)(t:sh)(l:c.trans[k]? =some t)(o:rx c act=true)(f: ¬t.target<0):
 hU prog env 200 [1001,35] (fun i=>i==35) (fun g=>[aH c, .row 1001 (g 1001),I k]) (fun _=>[(1001,⟨1,act.map aa,3,true⟩)]) (fun _=>[(1001,⟨1,act.map aa,3,true⟩),(35,⟨1,(fe c act t).map aa,3,true⟩)]) (fun g=> .tuple [.row 35 (g 35),h8]):=by
 have f0:=cd env d e p c h b act j;have f1:=ni env c b k t l;have f2:=mq env c h.toRight b t (h.src l).1;have f3:=(Ac env c h.toRight act j (nb c t.src t.target)).lend (aj (fun _=>rfl) _);unfold vA at f0;rw[o]at f0;simp only[Mb]at f0;have f0:=f0.lend rfl;unfold fe;rw[Lf f];unfold an at f1 f2;unfold aH at f0 f1 f2 f3 |-;generalize (F' c act (nb c t.src t.target)).reverse=R at*;refine qi func200 call200 ntmps200 results200 ?_;intro q n a;have m:=a 1001 (by simp);have F:=ai f m;repeat refine st ?_
 refine lL f0 ?_;repeat refine vb f1 f2 ?_
 refine lL f3 ?_;repeat refine st ?_
 exact rI
/-! A step in which nothing is done: the chart of awake -/
end
section
def uz(env:b6)(G:List Int)(a:G.length<=1000000)(i:Int):b7 prog env 202 [I i, .ref 1 [[.seq 1 (G.map aa)]] 0 0] (B (G.contains i)):=by
 have f0:=bJ env G i a;refine qf func202 call202 ntmps202 results202 ?_;repeat refine jL f0 ?_
 exact p'
def fh{c:aq}(h:b8 c)(act:List Int)(t:sh):(fe c act t).length<=32:=by
 unfold fe;split
 ·simp
 rw[NZ];unfold F';exact Ly (MF ..) (by rw[ak];exact cQ h.toRight act)
def nV(env:b6)(j k:Addr)(n:fq env j k)(c:aq)(h:b8 c)(p:g6 c)(act:List Int)(o:act.length<=1000000)(m:rx c act=true)(a b:Nat)(q:a<c.trans.length)(l:b<c.trans.length):b7 prog env 147 [aH c,b0 act,I a,I b] (B (bd c act a b)):=by
 obtain⟨g,e⟩:=gE q;obtain⟨d,f⟩:=gE l;have f0:=wy env j k n c h p act o a g e m;have f1:=wy env j k n c h p act o b d f m;have r:=fh h act g;have s:=fh h act d;have f2:=kV env (fe c act g) (fun i=>(fe c act d).contains i) 202 [[.seq 1 ((fe c act d).map aa)]] (fun i=>uz env (fe c act d) (by omega) i) (by omega);unfold bd;rw[cx e,cx f];generalize fe c act g=A at*;generalize fe c act d=C at*;unfold aH at f0 f1 |-;refine qf func147 call147 ntmps147 results147 ?_;repeat refine zy f0 f1 ?_
 refine Rj f2 ?_;repeat refine m8 ?_
 exact p'
def Ah{c:aq}{act:List Int}{l:List Nat}{n k:Nat}(b:k∈l)(h:lR c act n k=false):k5 c act l n=l:=by
 unfold k5;rw[Lf];intro a;rw[Lm.1 a k b]at h;cases h
def HU(env:b6)(H J:Addr)(R:fq env H J)(c:aq)(h:b8 c)(W:g6 c)(x:pb)(d:Int)(O:DQ c x d)(l:List Nat)(Z:l.length<=1000)(z: ∀n∈l,n<c.trans.length)(n:Nat)(A:n<c.trans.length):
 b7 prog env 89 [.ref 15 [Qj c x d] 0 0, .seq 1 (l.map aB),I n] (.seq 1 ((k5 c x.1 l n).map aB)):=by
 have M:=h.Z6;have f0:=fun k z=>nV env H J R c h W x.1 (by have:=O.act;omega) O.lg k n z A;have f1:=bP env c;have f2:=fun i k=>fG env c h.toRight i k;obtain⟨G,q⟩:=gE A;have P:=h9 A;unfold aQ at f1 f2;unfold aH at f0 f1;refine qf func89 call89 ntmps89 results89 ?_;repeat refine m8 ?_
 refine am 7 7 3 1 ?_;refine Si (D:=Nat) (fun j X=>[(0, .ref 15 [Qj c x d] 0 0),(1, .seq 1 (l.map aB)),(2,I n),(7, .row 7 (X 7)),(10, .seq 1 (l.map aB)),(11,I l.length),(12,I j)]) (fun j _=>[(7,⟨1,((l.take j).filter fun k=> !bd c x.1 k n).map aB,3,true⟩)]) (fun j _ s=>(j<=l.length/\(l.take j).all (lR c x.1 n)=true)/\s 7=false) (fun j=>l.length-j) 0 ⟨⟨Lx _,rfl⟩,rfl⟩ ?_;rintro j ws s ⟨⟨Y,f⟩,r⟩;have S:((l.take j).filter fun k=> !bd c x.1 k n).length<=l.length:=Ly (MF ..) (by rw[Lw];omega);have y:cI (((l.take j).filter fun k=> !bd c x.1 k n).length+1) 8:=aC (by omega) (by omega);by_cases m:j<l.length
 ·obtain⟨k,g⟩:=gE m;have v:=Lh g;have o:=z k v;obtain⟨E,p⟩:=gE o;have w:=h9 m;have B:=aD m (by omega);have C:=h9 o;have f3:=f0 k o;have f4:=f2 E.src G.src;have N:=bE g
  have e:((l.take (j+1)).filter fun k=> !bd c x.1 k n)=((l.take j).filter fun k=> !bd c x.1 k n)++if bd c x.1 k n=true then [] else [k]:=by
   rw[N,MR]
   congr 1
   cases U:bd c x.1 k n<;>simp[U]
  have a:lR c x.1 n k=(!bd c x.1 k n||aE c E.src G.src):=by unfold lR;rw[cx p,cx q]
  have u: ∀b,lR c x.1 n k=b->(l.take (j+1)).all (lR c x.1 n)=b:=fun b Q=>by rw[N,Oo,f];simp[Q]
  cases L:bd c x.1 k n with
  | false=>
    rw[L]at f3 e a;simp only[MH,Mi]at e;have F:=ns Tn SU g w B C y r;repeat refine ef f3 ?_
    refine⟨j+1,⟨⟨m,u _ (by rw[a];rfl)⟩,by simp only[go_sem,r]⟩,?_,?_,by omega⟩
    ·exact qe
    have F:=fI SU e @Ln.{0,0};exact qe
  | true=>
    rw[L]at f3 e a;simp only[Mb,Mw]at e;simp only[N7,NY]at a;cases t:aE c E.src G.src with
    | true=>
      rw[t]at f4 a;have F:=pc Tn SV SU g p q w B C P r;repeat refine Qs f1 f3 f4 ?_
      refine⟨j+1,⟨⟨m,u _ a⟩,by simp only[go_sem,r]⟩,?_,?_,by omega⟩
      ·exact qe
      have F:=ai SU e;exact qe
    | false=>
      rw[t]at f4 a;rw[Ah v a];have F:=pc Tn SV SU g p q w B C P r;exact x5 f1 f3 f4
 obtain rfl:j=l.length:=by omega
 have w:=nl l.length;rw[MC]at f y;have V:k5 c x.1 l n=(l.filter fun k=> !bd c x.1 k n)++[n]:=by unfold k5;rw[Lj f]
 have T:(k5 c x.1 l n).map aB=((l.filter fun k=> !bd c x.1 k n).map aB)++[[I (n:Int)]]:=by rw[V,Ln];rfl
 rw[T,MC];generalize (l.filter fun k=> !bd c x.1 k n)=K at*;have F:=hH SU w y r;repeat refine st ?_
 refine eh (cU.frozen 7 6 ⟨1,K.map aB++[[I (n:Int)]],3,true⟩ rfl (MZ 0) (by simp only[go_sem]) (by simp only[go_sem])) ?_;exact aR
def D'(x:pb):Rc:=⟨0,0,0,x.1,x.2.1,x.2.2.1,x.2.2.2.1,x.2.2.2.2⟩
def xx(x:pb):i8 (D' x)=k0 x:=rfl
def FT(env:b6)(a b:Addr)(i:fq env a b)(c:aq)(h:b8 c)(n:g6 c)(x:pb)(f:MT (D' x))(j: ∀t∈x.2.2.2.1,t.1.length<=9223372036854775807)(e: ∀m∈x.2.2.1,cI m.2.length 8)(o:List UInt8)(d:Int)(l:bM c (D' x)=true)(k:x.2.2.2.2=false)(g:aL d=true):b7 prog env 85 [Sg o,aH c, .agg (k0 x),I d] h8:=by
 have f0:=sG env a b i c h n (D' x) f j e;unfold sQ at f0;rw[Lj l,xx]at f0;have f1:=dD env d;rw[g]at f1;unfold aH k0 at f0 |-;refine qf func85 call85 ntmps85 results85 ?_;have F:=k;exact m5 f0 f1
end
section
def zr(env:b6)(b d:Addr)(m:fq env b d)(c:aq)(h:b8 c)(e:g6 c)(act:List Int)(n:act.length<=1000000)(k:Nat)(t:sh)(o:c.trans[k]? =some t)(l:rx c act=true)(j:t.target<0):
 hU prog env 200 [1001] (fun _=>false) (fun g=>[aH c, .row 1001 (g 1001),I k]) (fun _=>[(1001,⟨1,act.map aa,3,true⟩)]) (fun _=>[(1001,⟨1,act.map aa,3,true⟩)]) (fun _=> .tuple [ct,h8]):=by
 have f0:=cd env b d m c h e act n;have f1:=ni env c e k t o;unfold vA at f0;rw[l]at f0;simp only[Mb]at f0;have f0:=f0.lend rfl;unfold an at f1;unfold aH at f0 f1 |-;refine qi func200 call200 ntmps200 results200 ?_;intro p i a;have f:=a 1001 (by simp);have F:=ai j f;repeat refine st ?_
 refine lL f0 ?_;repeat refine ef f1 ?_
 exact rI
def wH{c:aq}{act:List Int}{ts:List Nat}{j n:Nat}{t:sh}(a:ts[j]? =some n)(b:c.trans[n]? =some t):c0 c act (ts.take (j+1))=c0 c act (ts.take j)++fe c act t:=by
 unfold c0;rw[bE a,N8];simp[cx b]
def rM{c:aq}{mem:List dg}{ts:List Nat}{j n:Nat}{t:sh}(a:ts[j]? =some n)(b:c.trans[n]? =some t):toR c mem (ts.take (j+1))=toR c mem (ts.take j)++mv c t mem:=by
 unfold toR;rw[bE a,N8];simp[cx b]
def wx{c:aq}{d now:Int}{r:ch}{l:List Nat}{j n:Nat}{t:sh}(b:l[j]? =some n)(e:c.trans[n]? =some t):dR c d now r (l.drop j)=match lE c d now r t.Z1 with
 |(a,none)=>dR c d now a (l.drop (j+1))
 |x=>x:=by
 rw[ar b]
 conv=>lhs;unfold dR
 rw[cx e];rcases lE c d now r t.Z1 with⟨a,_|_⟩<;>rfl
def Dk{c:aq}(h:b8 c){n:Nat}{t:sh}(b:c.trans[n]? =some t):t.Z1.length<=32/\ ∀a∈t.Z1,gC c.vars.length c.Z9.length a=true:=by
 have:=h.tr n t b;unfold d5 eL at this;simp only[Li,Lt,Lm]at this;exact this.1.2
def uJ{c:aq}(h:b8 c)(act:List Int): ∀ts:List Nat,(c0 c act ts).length<=32*ts.length
 |[]=>Lx _
 | n::ts=>by
   have:=uJ h act ts;have a:=fh h act (da c n);unfold c0 at this |-;rw[Ox,Ll,MB];omega
def DX{c:aq}(h:b8 c)(mem:List dg): ∀ts:List Nat,(toR c mem ts).length<=32*ts.length
 |[]=>Lx _
 | n::ts=>by
   have:=DX h mem ts
   have a:(mv c (da c n) mem).length<=32:=by
    unfold mv HG;split
    ·exact Lx _
    exact cQ h.toRight _
   unfold toR at this |-;rw[Ox,Ll,MB];omega
def HX(env:b6)(S a2 Q:Addr)(c:aq)(d now:Int)(E:x6 env S a2 Q c d now)(r:ch)(T:ek c r)(hl:r.act.length<=100)(hb:rx c r.act=true)(hm:bZ c r.mem=true)(hml:r.mem.length<=1000000)(hFm: ∀m∈r.mem,cI m.2.length 8)(ts:List Nat)(hts: ∀n∈ts,∃t,c.trans[n]? =some t)(htl:ts.length<=64)
 (hgo: ∀x∈zL (bt c (c0 c r.act ts)),x∈r.act)(hmem:bZ c (m7 c r.act (zL (bt c (c0 c r.act ts))) r.mem)=true)(O:(m7 c r.act (zL (bt c (c0 c r.act ts))) r.mem).length<=1000000/\ ∀m∈m7 c r.act (zL (bt c (c0 c r.act ts))) r.mem,cI m.2.length 8)
 (H: ∀r2:ch,ek c r2->r2.act=r.act.filter (fun k=> !(zL (bt c (c0 c r.act ts))).reverse.contains k)->(ah c d now r2 [] (zL (bt c (zL (toR c (m7 c r.act (zL (bt c (c0 c r.act ts))) r.mem) ts))))).1.2=none->rx c (ah c d now r2 [] (zL (bt c (zL (toR c (m7 c r.act (zL (bt c (c0 c r.act ts))) r.mem) ts))))).1.1.act=true):
 hU prog env 150 [1000,1001,1002,1003,1004,1005] n8 (fun g=>[.loc 1000 (g 1000) 0 0, .seq 1 (ts.map aB)]) (RY c d now r) (RY c d now (ld c d now r ts).1) (fun _=>ck a2 Q (ld c d now r ts).2):=by
 have hfew:=E.h.Z6;have hftr:=E.h.ZP;have hA:=bT E.h;have C:=(cr hb).ZZ;have fT:=bP env c;have fL:=fun(n:Nat)(t:sh)(z:c.trans[n]? =some t)(Y: ¬t.target<0)=>DO env S Q E.he c E.h E.hs r.act (by omega) n t z hb Y;have U:=fun(n:Nat)(t:sh)(z:c.trans[n]? =some t)(Y:t.target<0)=>zr env S Q E.he c E.h E.hs r.act (by omega) n t z hb Y;have hlf:=fun t=>fh E.h r.act t;have hgl:=uJ E.h r.act;have fS:=(fY env c E.h.toRight (c0 c r.act ts) (by have:=hgl ts;omega)).lend (aj (fun _=>rfl) _);have hSl:=cQ E.h.toRight (c0 c r.act ts);have hSk:=fun(k:Nat)(hk:k∈bt c (c0 c r.act ts))=>kj E.h.toRight hk;have fR:=vD env S Q E.he c E.h E.hs r.act (zL (bt c (c0 c r.act ts))) (by omega) (by rw[ak];omega) r.mem hml hFm hb hm hgo;rw[b9]at fR;unfold ld;simp only;generalize hM:m7 c r.act (zL (bt c (c0 c r.act ts))) r.mem=e at*;generalize hGG:bt c (c0 c r.act ts)=G at*;have W:=fun(n:Nat)(t:sh)(z:c.trans[n]? =some t)=>DN env S Q E.he c E.h E.hs e O.1 O.2 n t z hmem;have hto:=DX E.h e;have hrev:(zL G).reverse=zL G.reverse:=by unfold zL;rw[List.map_reverse]
 rw[hrev]at H |-;have B:=Fy env S a2 Q c d now E { r with mem:=e } { T with } (by simp only;omega) G hSk (by omega);have kL:=ky hA (l:=zL G.reverse) E.hd E.hn (r:={ r with mem:=e }) { T with };have hal:=fun(r:ch) T hl (l:List jn) hll ha=>yP env S a2 Q c d now E r T hl l hll ha;have hok:=fun(r:ch)(T:ek c r)(l:List jn) ha=>jb E.hd E.hn (l:=l) T ha;have V:=((fY env c E.h.toRight (zL (toR c e ts)) (by rw[ak];have:=hto ts;omega)).lend (aj (fun _=>rfl) _)).seen;rw[b9]at V;have hS2l:=cQ E.h.toRight (zL (toR c e ts));have hS2k:=fun(k:Nat)(hk:k∈bt c (zL (toR c e ts)))=>kj E.h.toRight hk;have hen:=fun(r2:ch) T C hl H=>w8 env S a2 Q c d now E r2 T C hl (bt c (zL (toR c e ts))) hS2k (by omega) H;generalize hTT:bt c (zL (toR c e ts))=T2 at*;unfold aQ at fT fS V;unfold aH at fT fL U fR W;refine qi func150 call150 ntmps150 results150 ?_;intro vs esc hesc;obtain⟨i,o,p,q,s,u⟩:=Qc hesc;have F:=pf SY SX S0 i o p q s u;repeat refine st ?_
 refine am 5 5 3 1 ?_;refine am 6 6 3 1 ?_;refine lp (D:=Nat) (fun j b=>[(0, .loc 1000 (b 1000) 0 0),(1, .seq 1 (ts.map aB)),(5, .row 5 (b 5)),(6, .row 6 (b 6)),(21, .seq 1 (ts.map aB)),(22,I ts.length),(23,I j)]) (fun j b=>(5,⟨1,(c0 c r.act (ts.take j)).map aa,3,true⟩)::(6,⟨1,[],3,true⟩)::RY c d now r b) (fun j b a=>j<=ts.length/\(b 1000=vs 1000/\b 1002=vs 1002)/\a 1000=false/\a 1001=false/\a 1002=false/\a 1003=false/\a 1004=false/\a 1005=false/\a 5=false/\a 6=false) (fun j=>ts.length-j) 0 ⟨Lx _,by simp only[go_sem,Ls],by simp only[go_sem,i,o,p,q,s,u,Ls]⟩ ?_;try clear i o p q s u
 rintro j ws es ⟨hj,⟨L,M⟩,i,o,p,q,s,u,N,y⟩;by_cases f:j<ts.length
 ·obtain⟨n,J⟩:=gE f;obtain⟨t,z⟩:=hts n (Lh J);have K:=h9 f;have q2:=aD f (by omega);have hlft:=hlf t;have q4:(c0 c r.act (ts.take (j+1))).map aa=(c0 c r.act (ts.take j)).map aa++(fe c r.act t).map aa:=by rw[wH J z,Ln]
  have q3:(c0 c r.act (ts.take j)).length<=32*j:=Ly (hgl _) (by rw[Lw];omega);generalize c0 c r.act (ts.take j)=A at*;by_cases Y:t.target<0
  ·have f0:=U n t z Y;have hz:fe c r.act t=[]:=by unfold fe;rw[Lj Y]
   rw[hz,NH,Mw]at q4;have q5:cI A.length 8:=aC (by omega) (by omega);have F:=dk SY SX SU S0 J K q2 q5 i o p<|g7 q s u N y;repeat refine st ?_
   refine iL [(1001,1001)] f0 ?_;repeat refine st ?_
   refine⟨j+1,⟨f,by simp only[go_sem,L,M,Ls],by simp only[go_sem,i,o,p,q,s,u,N,y,Ls]⟩,?_,?_,by omega⟩
   ·exact qe
   simp only[q4];exact qe
  have f0:=fL n t z Y;have q5:cI (A.length+(fe c r.act t).length) 8:=aC (by omega) (by omega);generalize fe c r.act t=Lv at*;refine wt 9001 rfl ?_;have F:=dk SY SX SU S0 J K q2 q5 i o p<|g7 q s u N y;repeat refine st ?_
  refine iL [(1001,1001),(35,9001)] f0 ?_;repeat refine st ?_
  refine⟨j+1,⟨f,by simp only[go_sem,L,M,Ls],by simp only[go_sem,i,o,p,q,s,u,N,y,Ls]⟩,?_,?_,by omega⟩
  ·exact qe
  simp only[q4];exact qe
 obtain rfl:j=ts.length:=by omega
 have K:=nl ts.length;rw[MC];have F:=dk SY SX S0 K i o p q s u N y;repeat refine ef fT ?_
 refine lL fS ?_;repeat refine st ?_
 refine iL [(1001,1001),(1006,54)] fR ?_;repeat refine st ?_
 refine lp (D:=Nat) (fun j b=>[(0, .loc 1000 (b 1000) 0 0),(1, .seq 1 (ts.map aB)),(5, .row 54 (b 54)),(6, .row 6 (b 6)),(11,ff e),(82, .seq 1 (ts.map aB)),(83,I ts.length),(84,I j)]) (fun j b=>(54,⟨1,G.map aB,3,true⟩)::(6,⟨1,(toR c e (ts.take j)).map aB,3,true⟩)::RY c d now { r with mem:=e } b) (fun j b a=>j<=ts.length/\(b 1000=vs 1000/\b 1002=vs 1002)/\a 1000=false/\a 1001=false/\a 1002=false/\a 1003=false/\a 1004=false/\a 1005=false/\a 54=false/\a 6=false) (fun j=>ts.length-j) 0 ⟨Lx _,by simp only[go_sem,L,M,Ls],by simp only[go_sem,i,o,p,q,s,u,y,Ls]⟩ ?_;try clear i o p q s u N y L M
 rintro j us fs ⟨hj,⟨L,M⟩,i,o,p,q,s,u,N,y⟩;by_cases f:j<ts.length
 ·obtain⟨n,J⟩:=gE f;obtain⟨t,z⟩:=hts n (Lh J);have K:=h9 f;have q2:=aD f (by omega);have f0:=W n t z;have q4:(toR c e (ts.take (j+1))).map aB=(toR c e (ts.take j)).map aB++(mv c t e).map aB:=by rw[rM J z,Ln]
  have q3:(toR c e (ts.take j)).length<=32*j:=Ly (hto _) (by rw[Lw];omega);have q6:(toR c e (ts.take (j+1))).length<=32*(j+1):=Ly (hto _) (by rw[Lw];omega);rw[rM J z,Ll]at q6;generalize mv c t e=Tg at*;generalize toR c e (ts.take j)=A at*;have q5:cI (A.length+Tg.length) 8:=aC (by omega) (by omega);have F:=dk SY SX SU S0 J K q2 q5 i o p<|g7 q s u N y;repeat refine ef f0 ?_
  refine⟨j+1,⟨f,by simp only[go_sem,L,M,Ls],by simp only[go_sem,i,o,p,q,s,u,N,y,Ls]⟩,?_,?_,by omega⟩
  ·exact qe
  simp only[q4];exact qe
 obtain rfl:j=ts.length:=by omega
 have K:=nl ts.length;rw[MC];try clear fL U W fS fR
 rcases hX:bS c d now { r with mem:=e } (zL G.reverse) with⟨r1,_|⟨k,ps⟩⟩
 ·rw[hX]at B kL;obtain⟨kr,kmm,_,w⟩:=kL;have w:=w rfl;simp only at kr kmm w;have hact1:r1.act.length<=100:=by rw[w];exact Ly (MF ..) hl
  have R:r1.act.Pairwise (· < ·):=by rw[w];exact C.sublist My
  have Z: ∀r2:ch,ek c r2->r2.act=r1.act->(ah c d now r2 [] (zL T2)).1.2=none->rx c (ah c d now r2 [] (zL T2)).1.1.act=true:=fun r2 k1 k2=>H r2 k1 (by rw[k2,w]);unfold ck RW RY k9 at B;simp only at B |-;have F:=dk SY SX S0 K i o p q s u N y;repeat refine st ?_
  refine iL [(1000,1000),(1001,1001),(1002,1002),(1003,1003),(1004,1004),(1005,1005),(1006,54)] B ?_;repeat refine st ?_
  refine lp (D:=Nat×ch) (fun x b=>[(0, .loc 1000 (b 1000) 0 0),(6, .row 6 (b 6)),(111, .seq 1 (ts.map aB)),(112,I ts.length),(113,I x.1)]) (fun x b=>(6,⟨1,(toR c e ts).map aB,3,true⟩)::RY c d now x.2 b) (fun x b a=>(x.1<=ts.length/\dR c d now r1 ts=dR c d now x.2 (ts.drop x.1)/\ek c x.2/\x.2.act=r1.act)/\(b 1000=vs 1000/\b 1002=vs 1002)/\a 1000=false/\a 1001=false/\a 1002=false/\a 1003=false/\a 1004=false/\a 1005=false/\a 6=false) (fun x=>ts.length-x.1) (0,r1) ⟨⟨Lx _,rfl,kr,rfl⟩,by simp only[go_sem,L,M,Ls],by simp only[go_sem,i,o,p,q,s,u,y,Ls]⟩ ?_;try clear i o p q s u N y L M
  rintro⟨j,r2⟩ us fs ⟨⟨hj,v,P,h⟩,⟨L,M⟩,i,o,p,q,s,u,y⟩;simp only at hj v P h;by_cases f:j<ts.length
  ·obtain⟨n,J⟩:=gE f;obtain⟨t,z⟩:=hts n (Lh J);obtain⟨s1,s2⟩:=Dk E.h z;have hn:=(Ld.1 z).1;have f0:=hal r2 P (by rw[h];omega) t.Z1 (by omega) s2;obtain⟨k1,k2⟩:=hok r2 P t.Z1 s2;have K:=h9 f;have q2:=aD f (by omega);have q3:=h9 hn;rw[wx J z]at v;rcases hY:lE c d now r2 t.Z1 with⟨r3,_|⟨k,ps⟩⟩
   ·rw[hY]at v f0 k1 k2;simp only at v k1 k2;unfold ck RY k9 at f0;simp only at f0;have F:=dk SY SX SV SU S9 S0 J z K q2 q3<|lP i o p q s u y;repeat refine st ?_
    refine iL L6 f0 ?_;repeat refine st ?_
    exact qn (j+1,r3) ⟨⟨f,v,k1,k2.act.trans h⟩,by simp only[go_sem,L,M,Ls],by simp only[go_sem,i,o,p,q,s,u,y,Ls]⟩
   rw[hY]at v f0;simp only at v;unfold ck RY k9 at f0;simp only at f0;rw[v];show fk _ _ _ _ _ _;unfold ck;simp only;have F:=dk SY SX SV SU S9 S0 J z K q2 q3<|pf L M i o p q s u y;repeat refine st ?_
   refine iL L6 f0 ?_;repeat refine st ?_
   exact rI
  obtain rfl:j=ts.length:=by omega
  have K:=nl ts.length;rw[Mu]at v;rw[show dR c d now r2 []=(r2,none) from rfl]at v;rw[v];simp only;have f9:=hen r2 P (by rw[h];exact R) (by rw[h];omega) (Z r2 P h);generalize go c d now r2 (zL T2)=X at*;unfold RY k9 at f9;have F:=dk SY SX S0 eY K L M i o p q<|fI s u y;repeat refine ef fT ?_
  refine lL V ?_;repeat refine st ?_
  refine iL L6 f9 ?_;repeat refine st ?_
  exact rI
 rw[hX]at B;unfold ck RW RY k9 at B;simp only at B |-;show fk _ _ _ _ _ _;unfold ck;simp only;have F:=dk SY SX S0 K L M i o p q s<|fI u N y;repeat refine st ?_
 refine iL [(1000,1000),(1001,1001),(1002,1002),(1003,1003),(1004,1004),(1005,1005),(1006,54)] B ?_;repeat refine st ?_
 exact rI
end
section
def I0(l:List Int)(x:Int):l.reverse.contains x=l.contains x:=by
 rw[MP,Lk,Lk,Of]
def H3(c:aq)(act gone:List Int)(mem:List dg):Bs c act gone.reverse mem=Bs c act gone mem:=by
 have e:A' c act gone.reverse mem=A' c act gone mem:=by
  funext h
  unfold A';split
  ·rw[I0]
  rfl
 unfold Bs eP;rw[e]
def F1(env:b6)(l:List Int)(s:l.length<=4000)(n:Int):b7 prog env 132 [.seq 1 (l.map aa),I n] (.own 3 1 ((l.filter fun k=> !(k==n)).map aa)):=by
 refine qf func132 call132 ntmps132 results132 ?_;repeat refine m8 ?_
 refine PA l.length (by omega) (fun j m=>[(0, .seq 1 (l.map aa)),(1,I n),(5, .row 7 (m 7)),(6,I j)]) (fun j m=>[(7,⟨1,((l.take j).filter fun k=> !(k==n)).map aa,3,true⟩)]) (fun j _ g=>g 7=false) (by simp only[go_sem]) ?_ ?_
 ·rintro j r o b f i c;obtain⟨x,e⟩:=gE b;have p:((l.take j).filter fun k=> !(k==n)).length<=j:=Ly (MF ..) (by rw[Lw];omega);have q:cI (((l.take j).filter fun k=> !(k==n)).length+1) 8:=aC (by omega) (by omega);cases d:x==n with
  | true=>
    have h:(l.take (j+1)).filter (fun k=> !(k==n))=(l.take j).filter fun k=> !(k==n):=by rw[bE e,MR];simp[d]
    have a:(x != n)=false:=by unfold bne;rw[d];rfl
    have F:=ip S3 e a f i c;repeat refine st ?_
    refine⟨j+1,⟨b,by simp only[go_sem,c]⟩,?_,?_,by omega⟩
    ·exact qe
    simp only[h];exact qe
  | false=>
    have h:((l.take (j+1)).filter (fun k=> !(k==n))).map aa=((l.take j).filter fun k=> !(k==n)).map aa++[aa x]:=by rw[bE e,MR];simp[d]
    have a:(x != n)=true:=by unfold bne;rw[d];rfl
    have F:=lP S3 e a f i q c;repeat refine st ?_
    refine⟨j+1,⟨b,by simp only[go_sem,c]⟩,?_,?_,by omega⟩
    ·exact qe
    simp only[h];exact qe
 rintro r o f c;rw[MC];have F:=ai f c;exact dT
def zS(env:b6)(c:aq)(h:b8 c)(d now:Int)(r:ch)(G:List Nat)(k:Nat)(ps:List Int)(e:((k:Int)==0)=false):b7 prog env 133 [.agg (aA c), .agg (fb r d now (some (k,ps))), .seq 1 (G.map aB)] (.agg (fb r d now (some (k,ps)))):=by
 have a:=rb env c h;generalize gc c (-1)=W at*;unfold fb;unfold aA at a;by_cases f:(0:Int)< (G.length:Int)
 ·by_cases b:(0:Int)< (W.length:Int)
  ·refine qf func133 call133 ntmps133 results133 ?_;have F:=hH SR e f b;repeat (first|refine aT ?_|refine st ?_|refine cC a ?_|refine aO 40 ?_)
   exact aR
  refine qf func133 call133 ntmps133 results133 ?_;have F:=hH SR e f b;repeat (first|refine aT ?_|refine st ?_|refine cC a ?_|refine aO 40 ?_)
  exact aR
 by_cases b:(0:Int)< (W.length:Int)
 ·refine qf func133 call133 ntmps133 results133 ?_;have F:=hH SR e f b;repeat (first|refine aT ?_|refine st ?_|refine cC a ?_|refine aO 40 ?_)
  exact aR
 refine qf func133 call133 ntmps133 results133 ?_;have F:=hH SR e f b;repeat (first|refine aT ?_|refine st ?_|refine cC a ?_|refine aO 40 ?_)
 exact aR
end
section
def zG(c:aq)(act gone:List Int)(mem:List dg)(j:Nat):eP c act gone mem (j+1)=if (A' c act gone mem j).isEmpty=true then eP c act gone mem j else eP c act gone mem j++[((j:Int),A' c act gone mem j)]:=by
 unfold eP;rw[Nn,MR,Ln];cases a:(A' c act gone mem j).isEmpty<;>simp[a]
def Br(c:aq)(act gone:List Int)(mem:List dg)(j:Nat):(eP c act gone mem j).length<=j:=by
 unfold eP;rw[ME];exact Ly (MF ..) (by rw[OT];exact Lr _)
def C8{p:Int->Bool}{K:List Int}{q:Nat}{u:Int}(h:K[q]? =some u):(K.take (q+1)).filter p=if p u=true then(K.take q).filter p++[u] else(K.take q).filter p:=by
 rw[MM,h,MR];cases a:p u<;>simp[a]
def y6(act Z:List Int)(q:Nat):List Int:=(Z.take q).filter fun k=>act.contains k
def GF{act Z:List Int}{q:Nat}{u:Int}(h:Z[q]? =some u):y6 act Z (q+1)=if act.contains u=true then y6 act Z q++[u] else y6 act Z q:=C8 h
def ud(env:b6)(c:aq)(h:b8 c)(act gone:List Int)(Y:act.length<=1000000)(hz: ∀x∈act,0<=x)(L:gone.length<=1000000)(mem:List dg)(M:mem.length<=1000000):b7 prog env 129 [.agg (aA c), .seq 1 (act.map aa), .seq 1 (gone.map aa),ff mem] (.own 122 2 ((Bs c act gone mem).map eg)):=by
 have Z:=h.Z6;have T:=fun(i:Int)=>be env c i true (by omega);have U:=fun(i:Int)=>nJ env c h.toRight act Y hz i;have C:=fun(i:Int)=>(show (F' c act i).length<=32 from Ly (MF ..) (by rw[ak];exact cQ h.toRight act));have S:=fun(i:Int)=>zP env c h (F' c act i) (by have:=C i;omega);unfold aA at T U S;show b7 _ _ _ _ (.own _ 2 ((eP c act gone mem c.Z9.length).map eg));refine qf func129 call129 ntmps129 results129 ?_;have F:=aA.eq_1;repeat refine st ?_
 have F:=aA.eq_1;refine lq c.Z9.length (by omega) (fun j m=>[(1, .seq 1 (act.map aa)),(2, .seq 1 (gone.map aa)),(3,ff mem),(4, .loc 4 (m 4) 0 0),(9, .row 15 (m 15)),(10,I j)]) (fun j _=>[(4,⟨5,[aA c],26,false⟩),(15,⟨2,(eP c act gone mem j).map eg,122,true⟩)]) (fun j _ a=>a 15=false) rfl ?_ ?_
 ·rintro j ws a o z R b;obtain⟨s,t⟩:=gE o;have f0:=bo env s;have r:=zG c act gone mem j;have hle:=Br c act gone mem j;have d:A' c act gone mem j=if aU s=true then(if gone.contains s.parent=true then(if s.kind=5 then zL (Iq c (F' c act s.parent)) else(gv c s.parent).filter fun k=>act.contains k) else Sj mem (j:Int)) else []:=by unfold A';rw[t];rfl
  unfold aK at f0;generalize A' c act gone mem j=V at*;cases hm:aU s with
  | false=>
    rw[hm]at f0 d;rw[Lf MW]at d;rw[d]at r;rw[Lj (show ([]:List Int).isEmpty=true from rfl)]at r;have F:=ip SR SS t z R b;repeat refine ef f0 ?_
    refine⟨j+1,⟨o,by simp only[go_sem,b]⟩,?_,?_,by omega⟩
    ·exact qe
    have F:=ai SR r;exact qe
  | true=>
    rw[hm]at f0 d;rw[Lj rfl]at d;have f1:=Dr env mem (j:Int) M;have f2:=cF env gone s.parent L;have f3:=U s.parent;have f4:=S s.parent;have f5:=T s.parent;have hKl:=bC h.toRight s.parent true;have J: ∀(u:Int),_:=fun u=>cF env act u Y;have G:gv c s.parent=zL (av c s.parent true):=rfl;generalize av c s.parent true=K at*;rw[G]at d;have F:=g7 SR SS t z b;repeat refine Qs f0 f1 f2 ?_
    refine Ed (D:=Unit) (fun _ m=>[(1, .seq 1 (act.map aa)),(2, .seq 1 (gone.map aa)),(3,ff mem),(4, .loc 4 (m 4) 0 0),(9, .row 15 (m 15)),(10,I j),(12, .seq 1 (V.map aa))]) (fun _ _=>[(4,⟨5,[aA c],26,false⟩),(15,⟨2,(eP c act gone mem j).map eg,122,true⟩)]) (fun _ _ a=>a 15=false) ?_ ?_
    ·refine dq ?_;cases w:gone.contains s.parent with
     | false=>
       rw[w,Lf MW]at d;rw[d];have F:=w;repeat refine st ?_
       refine⟨_,cU.refl _,(),by simp only[go_sem,b],?_,?_⟩
       ·exact qe
       have F:=aA.eq_1;exact qe
     | true=>
       rw[w,Lj rfl]at d;by_cases n:s.kind=5
       ·have B:(s.kind==5)=true:=by simp[n]
        rw[Lj n]at d;rw[d];have F:=hH SR SS w B;repeat refine vb f3 f4 ?_
        refine⟨_,cU.frozen 47 12 ⟨1,(Iq c (F' c act s.parent)).map aB,3,true⟩ rfl (MZ 0) (by simp only[go_sem]) (by simp only[go_sem]),(),by simp only[go_sem,b],?_,?_⟩
        ·have F:=b9;exact qe
        have F:=aA.eq_1;exact qe
       have B:(s.kind==5)=false:=by simpa using n
       rw[Lf n]at d;have F:=hH SR SS w B;repeat refine ef f5 ?_
       have F:=aA.eq_1;refine lq K.length (by omega) (fun q m=>[(1, .seq 1 (act.map aa)),(2, .seq 1 (gone.map aa)),(3,ff mem),(4, .loc 4 (m 4) 0 0),(9, .row 15 (m 15)),(10,I j),(12, .row 52 (m 52)),(13, .row 51 (m 51)),(14,I q)]) (fun q _=>[(4,⟨5,[aA c],26,false⟩),(15,⟨2,(eP c act gone mem j).map eg,122,true⟩),(51,⟨1,K.map aB,3,true⟩),(52,⟨1,(y6 act (zL K) q).map aa,3,true⟩)]) (fun q _ a=>a 15=false/\a 52=false) ⟨by simp only[go_sem,b],by simp only[go_sem]⟩ ?_ ?_
       ·rintro q xs fs g A r2 ⟨p,v⟩;obtain⟨u,O⟩:=gE g;have y:=J (u:Int);have P:(zL K)[q]? =some (u:Int):=by unfold zL;rw[Lo,O];rfl
        have f:=GF (act:=act) P;have hkl:(y6 act (zL K) q).length<=32:=Ly (MF ..) (by rw[Lw];omega);have H:cI ((y6 act (zL K) q).length+1) 8:=aC (by omega) (by omega);generalize y6 act (zL K) q=X at*;cases W:act.contains (u:Int) with
        | false=>
          rw[W]at y f;rw[Lf MW]at f;have F:=ip SU O A r2 p v;repeat refine ef y ?_
          refine⟨q+1,⟨g,by simp only[go_sem,p],by simp only[go_sem,v]⟩,?_,?_,by omega⟩
          ·exact qe
          have F:=ai SR f;exact qe
        | true=>
          rw[W]at y f;rw[Lj rfl]at f;have F:=lP SU O A r2 p v H;repeat refine ef y ?_
          refine⟨q+1,⟨g,by simp only[go_sem,p],by simp only[go_sem,v]⟩,?_,?_,by omega⟩
          ·exact qe
          have F:=hH SR SU f @Ln.{0,0};exact qe
       rintro xs fs A ⟨p,v⟩;have N:y6 act (zL K) K.length=V:=by unfold y6;rw[M8 (by rw[ak];exact Lr _)];exact d.symm
       rw[N];have F:=fI A p v;repeat refine st ?_
       refine⟨_,cU.frozen 52 12 ⟨1,V.map aa,3,true⟩ rfl (MZ 0) (by simp only[go_sem]) (by simp only[go_sem]),(),by simp only[go_sem,p],?_,?_⟩
       ·exact qe
       have F:=aA.eq_1;exact qe
    ·clear b;rintro-us es b;cases l:V.isEmpty with
     | true=>
       rw[l,Lj rfl]at r;have E:V.length=0:=by simpa using l
       have Q: ¬(0:Int)< (V.length:Int):=by omega
       have F:=fI Q R b;repeat refine st ?_
       refine⟨j+1,⟨o,by simp only[go_sem,b]⟩,?_,?_,by omega⟩
       ·exact qe
       have F:=ai SR r;exact qe
     | false=>
       rw[l,Lf MW]at r
       have E:V.length≠0:=by
        intro e;rw[NE.1 e]at l;cases l
       have Q:(0:Int)< (V.length:Int):=by omega
       have H:cI ((eP c act gone mem j).length+1) 32:=aC (by omega) (by omega);have F:=hH Q R b H;repeat refine st ?_
       refine⟨j+1,⟨o,by simp only[go_sem,b]⟩,?_,?_,by omega⟩
       ·exact qe
       have F:=hH SR S6 r @Ln.{0,0};exact qe
 rintro ws a z b;have F:=fI SR z b;exact dT
end
section
end
section
def kg(env:b6)(es:List (List AV))(c:cI es.length 8):b7 prog env 47 [.seq 1 es] (.own 3 1 es):=by
 cases es with
 | nil=>
   refine b7.empty fun A a=> ?_;cases A with
   | none=>
     refine qw func47 call47 ntmps47 results47 ?_;repeat refine m8 ?_
     (refine aM ?_;refine⟨_,(by show (ag _ _ _).run _=some _;simp only[go_sem];rfl),?_⟩)
     exact fX.own_nil _ _ (by decide)
   | some A=>
     refine qf func47 call47 ntmps47 results47 ?_;repeat refine m8 ?_
     exact p'
 | cons d l=>
   have b:cI (l.length+1) 8:=c;refine qf func47 call47 ntmps47 results47 ?_;have F:=b;exact dT
def zj(env:b6)(es:List (List AV))(c:cI es.length 24):b7 prog env 48 [.seq 2 es] (.own 85 2 es):=by
 cases es with
 | nil=>
   refine b7.empty fun A a=> ?_;cases A with
   | none=>
     refine qw func48 call48 ntmps48 results48 ?_;repeat refine m8 ?_
     (refine aM ?_;refine⟨_,(by show (ag _ _ _).run _=some _;simp only[go_sem];rfl),?_⟩)
     exact fX.own_nil _ _ (by decide)
   | some A=>
     refine qf func48 call48 ntmps48 results48 ?_;repeat refine m8 ?_
     exact p'
 | cons d l=>
   have b:cI (l.length+1) 24:=c;refine qf func48 call48 ntmps48 results48 ?_;have F:=b;exact dT
end
section
def Jw(env:b6)(Y Z:Addr)(he:fq env Y Z)(c:aq)(h:b8 c)(S:g6 c)(d now:Int)(r:ch)(hl:r.act.length<=1000)(hb:rx c r.act=true)(l:List Nat)(M:Fit c r.act l)(hll:l.length<=1000):
 hU prog env 149 [1000,1001,1002,1003,1004,1005] (fun _=>false) (fun g=>[.loc 1000 (g 1000) 0 0, .seq 1 (l.map aB)]) (RY c d now r) (RY c d now r) (fun _=>B true):=by
 have htr:=h.ZP
 have fC:=fun(n:Nat)(t:sh)(L:c.trans[n]? =some t)(R:t.src∈r.act)=>by
  have:=bJ env r.act t.src (by omega);rw[Lk.2 R]at this;exact this.lend rfl
 have fK:=fun(a b:Nat) ha N=>(nV env Y Z he c h S r.act (by omega) hb a b ha N).lend rfl;have K:=M6.1 M.two;unfold aH at fK;refine qi func149 call149 ntmps149 results149 ?_;intro v esc H;obtain⟨m,o,p,q,s,u⟩:=Qc H;have F:=ns SY SX m o p q s u;repeat refine st ?_
 refine lq l.length (by omega) (fun i e=>[(0, .loc 1000 (e 1000) 0 0),(1, .seq 1 (l.map aB)),(9, .seq 1 (l.map aB)),(10,I l.length),(11,I i)]) (fun i e=>RY c d now r e) (fun i e f=>(e 1000=v 1000/\e 1001=v 1001/\e 1002=v 1002/\e 1003=v 1003/\e 1004=v 1004/\e 1005=v 1005)/\f 1000=false/\f 1001=false/\f 1002=false/\f 1003=false/\f 1004=false/\f 1005=false) ⟨by simp only[go_sem,Ls],by simp only[go_sem,m,o,p,q,s,u,Ls]⟩ ?_ ?_
 ·try clear m o p q s u
  rintro i ws es x X q2 ⟨⟨y,z,A,C,E,G⟩,m,o,p,q,s,u⟩;obtain⟨n,V⟩:=gE x;obtain⟨t,L,R⟩:=M.real n (Lh V);have hn:=(Ld.1 L).1;have f0:=fC n t L R;have q3: ¬(n:Int)<0:=by omega
  have q4: ¬(c.trans.length:Int)<=(n:Int):=by omega
  have q5:(n:Int)< (c.trans.length:Int):=by omega
  have q6:(l.take i).length=i:=by rw[Lw];omega
  have q7:(i:Int)<=(l.length:Int):=by omega
  have F:=dk SV SU SY SX V L X q3 q4 q5 q7<|ip m o p q s u;repeat refine st ?_
  refine lL f0 ?_;repeat refine st ?_
  generalize hT:l.take i=T at*;refine lp (D:=Nat) (fun j e=>[(0, .loc 1000 (e 1000) 0 0),(1, .seq 1 (l.map aB)),(6,I n),(9, .seq 1 (l.map aB)),(10,I l.length),(11,I i),(48, .seq 1 (T.map aB)),(49,I T.length),(50,I j)]) (fun j e=>RY c d now r e) (fun j e f=>j<=i/\(e 1000=v 1000/\e 1001=v 1001/\e 1002=v 1002/\e 1003=v 1003/\e 1004=v 1004/\e 1005=v 1005)/\f 1000=false/\f 1001=false/\f 1002=false/\f 1003=false/\f 1004=false/\f 1005=false) (fun j=>i-j) 0 ⟨Lx _,by simp only[go_sem,y,z,A,C,E,G,Ls],by simp only[go_sem,m,o,p,q,s,u,Ls]⟩ ?_;try clear m o p q s u y z A C E G
  rintro j us fs ⟨hj,⟨y,z,A,C,E,G⟩,m,o,p,q,s,u⟩;by_cases w:j<i
  ·obtain⟨k,O⟩: ∃a,T[j]? =some a:=⟨T[j]'(by omega),Lc (by omega)⟩;have J:l[j]? =some k:=by rw[<-hT,MV,Lj w]at O;exact O
   obtain⟨tk,U,_⟩:=M.real k (Lh J);have P:=(Ld.1 U).1;have Q:=K j i (by omega) x w;rw[(Ld.1 J).2,(Ld.1 V).2]at Q;have f1:=fK k n P hn;rw[Q.2]at f1;have W:(j:Int)< (T.length:Int):=by omega
   have p2:IntKind.i64.wrap ((j:Int)+1)=((j+1:Nat):Int):=aD (show j<l.length by omega) (by omega);have p3:((k:Int)==(n:Int))=false:=by have:=Q.1;simp;omega
   have F:=dk SU SY SX O W p2 p3 m o p q<|ai s u;repeat refine st ?_
   refine lL f1 ?_;repeat refine st ?_
   exact qn (j+1) ⟨w,by simp only[go_sem,y,z,A,C,E,G,Ls],by simp only[go_sem,m,o,p,q,s,u,Ls]⟩
  obtain rfl:j=i:=by omega
  have W: ¬(j:Int)< (T.length:Int):=by omega
  have F:=la SY SX W q2 m o p q s u;repeat refine st ?_
  exact qn (j+1) ⟨x,by simp only[go_sem,y,z,A,C,E,G,Ls],by simp only[go_sem,m,o,p,q,s,u,Ls]⟩
 try clear m o p q s u
 rintro ws es X ⟨⟨y,z,A,C,E,G⟩,m,o,p,q,s,u⟩;have F:=dk SY SX X y z A C E G m o<|hH p q s u;repeat refine st ?_
 exact rI
end
end Go.Proofs.YtknkhdgfhbogdaaGreatDoor
