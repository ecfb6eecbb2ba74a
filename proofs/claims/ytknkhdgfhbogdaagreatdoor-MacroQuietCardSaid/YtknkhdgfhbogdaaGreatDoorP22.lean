/- Which transitions are enabled, plain: they may be taken together. No program is named here. -/
import Derived.Test.YtknkhdgfhbogdaaGreatDoorP21
import Derived.Test.YtknkhdgfhbogdaaGreatDoorP7
set_option maxRecDepth 100000
set_option maxHeartbeats 16000000
set_option linter.unusedSimpArgs false
set_option linter.defProp false
namespace Go.Proofs.YtknkhdgfhbogdaaGreatDoor
open Go.Proofs.Tryz
open Go.RowKit
section
def gQ(c:aq)(x:Int):Bool:=match c.Z9[x.toNat]? with
 |some s=>decide (s.parent<0)&&(s.kind==3)
 |none=>false
def jx(c:aq)(act:List Int):Bool:=act.any (gQ c)
def yg{c:aq}{act:List Int}{i:Nat}{x:Int}(a:(act.take i).any (gQ c)=false)(b:act[i]? =some x)(h:gQ c x=false):(act.take (i+1)).any (gQ c)=false:=by
 rw[MM,b,List.any_append,a];simp[h]
def Eh{c:aq}{act:List Int}{i:Nat}{x:Int}(a:act[i]? =some x)(h:gQ c x=true):jx c act=true:=Ml.2 ⟨x,Lh a,h⟩
def Hc(env:b6)(c:aq)(act:List Int)(v:act.length<=1000000)(t: ∀x∈act,0<=x/\x<c.Z9.length):b7 prog env 84 [.agg (aA c),b0 act] (B (jx c act)):=by
 refine qf func84 call84 ntmps84 results84 ?_;have F:=aA.eq_1;repeat refine st ?_
 have F:=aA.eq_1;refine lq act.length (by omega) (fun i o=>[(2, .loc 2 (o 2) 0 0),(7,b0 act),(8,I act.length),(9,I i)]) (fun _ _=>[(2,⟨5,[aA c],26,false⟩)]) (fun i _ _=>(act.take i).any (gQ c)=false) rfl ?_ ?_
 ·rintro i o j a e l f;obtain⟨x,b⟩:=gE a;obtain⟨r,u⟩:=t x (Lh b);obtain⟨k,rfl⟩:=P0 r;have q:k<c.Z9.length:=by omega
  obtain⟨s,g⟩:=gE q;have m:=h9 q;have n:gQ c k=(decide (s.parent<0)&&(s.kind==3)):=by unfold gQ;rw[Mz,g]
  by_cases d:s.parent<0
  ·by_cases h:s.kind=3
   ·rw[Eh b (by rw[n,M2 d,h];rfl)];have F:=la SR SS S3 e l m b g d h;exact dT
   have p:(s.kind==3)=false:=by simpa using h
   have F:=la SR SS S3 e l m b g d p;repeat refine st ?_
   refine⟨i+1,⟨a,yg f b (by rw[n,p,Mj])⟩,?_,?_,by omega⟩
   ·exact qe
   have F:=aA.eq_1;exact qe
  have F:=pf SR SS S3 e l m b g d;repeat refine st ?_
  refine⟨i+1,⟨a,yg f b (by rw[n,MU d,M0])⟩,?_,?_,by omega⟩
  ·exact qe
  have F:=aA.eq_1;exact qe
 rintro o j e f;rw[show jx c act=false from by rwa [M8 (by omega)]at f];have F:=e;exact dT
def FX(env:b6)(c:aq)(act:List Int)(v:act.length<=1000000)(t: ∀x∈act,0<=x/\x<c.Z9.length):b7 prog env 37 [.agg (aA c),b0 act] (B (jx c act)):=by
 refine qf func37 call37 ntmps37 results37 ?_;have F:=aA.eq_1;repeat refine st ?_
 have F:=aA.eq_1;refine lq act.length (by omega) (fun i o=>[(1,b0 act),(2, .loc 2 (o 2) 0 0),(5,I i)]) (fun _ _=>[(2,⟨5,[aA c],26,false⟩)]) (fun i _ _=>(act.take i).any (gQ c)=false) rfl ?_ ?_
 ·rintro i o j a e l f;obtain⟨x,b⟩:=gE a;obtain⟨r,u⟩:=t x (Lh b);obtain⟨k,rfl⟩:=P0 r;have q:k<c.Z9.length:=by omega
  obtain⟨s,g⟩:=gE q;have m:=h9 q;have n:gQ c k=(decide (s.parent<0)&&(s.kind==3)):=by unfold gQ;rw[Mz,g]
  by_cases d:s.parent<0
  ·by_cases h:s.kind=3
   ·rw[Eh b (by rw[n,M2 d,h];rfl)];have F:=la SR SS S3 e l m b g d h;exact dT
   have p:(s.kind==3)=false:=by simpa using h
   have F:=la SR SS S3 e l m b g d p;repeat refine st ?_
   refine⟨i+1,⟨a,yg f b (by rw[n,p,Mj])⟩,?_,?_,by omega⟩
   ·exact qe
   have F:=aA.eq_1;exact qe
  have F:=pf SR SS S3 e l m b g d;repeat refine st ?_
  refine⟨i+1,⟨a,yg f b (by rw[n,MU d,M0])⟩,?_,?_,by omega⟩
  ·exact qe
  have F:=aA.eq_1;exact qe
 rintro o j e f;rw[show jx c act=false from by rwa [M8 (by omega)]at f];have F:=e;exact dT
def Hk(env:b6)(l:List (List UInt8×Int))(G:l.length<=9223372036854775807)(D: ∀t∈l,t.1.length<=9223372036854775807):b7 prog env 83 [.seq 2 (l.map cR)] (B (dL l)):=by
 refine qf func83 call83 ntmps83 results83 ?_;repeat refine m8 ?_
 refine PA l.length (by omega) (fun i _=>[(0, .seq 2 (l.map cR)),(5, .seq 2 (l.map cR)),(6,I l.length),(7,I i)]) (fun _ _=>[]) (fun i _ _=> ∀j,j<i->kR l j=true) (fun j C=>by omega) ?_ ?_
 ·rintro i E r c d f q;obtain⟨x,b⟩:=gE c;have f1:=du env x.1 (D x (Kh b));have a:kR l i=false->dL l=false:=fun h=>by rw[dL,tP c h];rfl
  cases k:bl x.1
  ·rw[a (by unfold kR;rw[eD b,k];rfl)];rw[k]at f1;have F:=hH d f b S5;exact g9 f1
  rw[k]at f1;by_cases m:x.2<0
  ·rw[a (by unfold kR BM;rw[eD b,MU (by omega),Mj];rfl)];have F:=g7 d f b S5 m;exact g9 f1
  by_cases o:1099511627776<x.2
  ·rw[a (by unfold kR BM;rw[eD b,MU (by omega),Mj];rfl)];have F:=ip d f b S5 m o;exact g9 f1
  have u:BM x.2=true:=M2 ⟨by omega,by omega⟩;by_cases z:i=0
  ·have p: ¬(0:Int)< (i:Int):=by omega
   have F:=lP d f b S5 m o p;repeat refine ef f1 ?_
   refine⟨i+1,⟨c,tO q ?_⟩,?_,?_,by omega⟩
   ·unfold kR;rw[eD b,k,u,M2 z];rfl
   ·exact qe
   exact qe
  have p:(0:Int)< (i:Int):=by omega
  have v:IntKind.i64.wrap ((i:Int)-1)=((i-1:Nat):Int):=L3 i 1 (by omega) (by omega);have w:((i-1:Nat):Int)< (l.length:Int):=by omega
  obtain⟨y,s⟩: ∃y,l[i-1]? =some y:=⟨l[i-1],Lc (by omega)⟩;have A:kR l i= !(Op.bytesLess x.1 y.1||x.1==y.1):=by unfold kR;rw[eD b,eD s,k,u,MU z,pH];rfl
  by_cases g:(Op.bytesLess x.1 y.1||x.1==y.1)=true
  ·rw[a (by rw[A,g];rfl)];have F:=pc d f b S5 m o p v w s g;exact g9 f1
  have g:(Op.bytesLess x.1 y.1||x.1==y.1)=false:=by simpa using g
  have F:=pc d f b S5 m o p v w s g;repeat refine ef f1 ?_
  exact qn (i+1) ⟨c,tO q (by rw[A,g];rfl)⟩
 rintro E r d q
 have e:dL l=decide ((l.length:Int)<=8):=by
  rw[dL,pW (n:=l.length) fun j C=>q j (by omega),M5];exact decide_eq_decide.2 (by omega)
 rw[e];have F:=d;exact dT
def Fq(env:b6)(a b:Addr)(d:fq env a b)(s:List UInt8):b7 prog env 73 [Sg s] (fc (-1) (cf a)):=by
 have c:=iH d.e1;have f1:=bh env s a;refine qf func73 call73 ntmps73 results73 ?_;have F:=c;exact g9 f1
structure MT(r:Rc):Prop where
 Z4:r.Z4.length<=1000000
 vars:r.vars.length<=1000000
 mem:r.mem.length<=1000000
 timers:r.timers.length<=9223372036854775807
def lV(l:List Int):Bool:=l.all aL
def bM(c:aq)(r:Rc):Bool:=rx c r.Z4&&bZ c r.mem&&(r.vars.length==c.vars.length)&&dL r.timers&&(r.over==jx c r.Z4)&&lV r.vars
def sQ(a:Addr)(c:aq)(r:Rc):AV:=if bM c r=true then h8 else fc (-1) (cf a)
def Gz{c:aq}{act:List Int}(h:rx c act=true): ∀x∈act,0<=x/\x<c.Z9.length:=fun x g=>by
 obtain⟨i,e⟩:=NL.1 g;have d:=(yZ.1 h).1 i (Ld.1 e).1;rw[sK e,Li]at d;have a:=d.2;unfold uk at_ at a;by_cases b:0<=x
 ·rw[Lj b]at a;cases f:c.Z9[x.toNat]? with
  |none=>rw[f]at a;cases a
  |some s=>have:=(Ld.1 f).1;omega
 rw[Lf b]at a;cases a
end
section
def ER{l:List Int}{i:Nat}{x:Int}(a:(l.take i).all aL=true)(b:l[i]? =some x)(h:aL x=true):(l.take (i+1)).all aL=true:=by
 rw[MM,b,Oo,a];simp[h]
def ES{l:List Int}{i:Nat}{x:Int}(a:l[i]? =some x)(h:aL x=false):lV l=false:=by
 unfold lV;rw[Nu];exact⟨x,Lh a,by rw[h];exact MW⟩
def z7(env:b6)(d q:Addr)(y:fq env d q)(c:aq)(h:b8 c)(A:g6 c)(r:Rc)(o:MT r)(B: ∀t∈r.timers,t.1.length<=9223372036854775807)(b:b7 prog env 82 [aH c,ff r.mem] (JK d c r.mem)):b7 prog env 44 [aH c, .agg (i8 r)] (sQ d c r):=by
 have f1:=au env c A;have f2:=cd env d q y c h A r.Z4 o.Z4;have f4:=Hk env r.timers o.timers B;have f6:=Fq env d q y [109,105,99,114,111,46,67,104,101,99,107];have a:bM c r=false->sQ d c r=fc (-1) (cf d):=fun h=>by unfold sQ;rw[h];rfl
 unfold vA at f2;unfold JK at b;unfold aA at f1;unfold aH at f1 f2 b |-;cases e:rx c r.Z4
 ·rw[a (by unfold bM;rw[e];rfl)];rw[e,Lf MW]at f2;refine qf func44 call44 ntmps44 results44 ?_;have F:=i8.eq_1;exact x5 f1 f2 f6
 rw[e,Lj rfl]at f2;cases g:bZ c r.mem
 ·rw[a (by unfold bM;rw[g,Mj];rfl)];rw[g,Lf MW]at b;refine qf func44 call44 ntmps44 results44 ?_;have F:=i8.eq_1;exact RG f1 f2 b f6
 rw[g,Lj rfl]at b;by_cases s:r.vars.length=c.vars.length
 case neg=>
  rw[a (by unfold bM;rw[show (r.vars.length==c.vars.length)=false by simpa using s,Mj];rfl)];have f:((r.vars.length:Int) != (c.vars.length:Int))=true:=by simp;omega
  refine qf func44 call44 ntmps44 results44 ?_;have F:=ai S8 f;exact RG f1 f2 b f6
 have f:((r.vars.length:Int) != (c.vars.length:Int))=false:=by simp[s]
 cases j:dL r.timers
 ·rw[a (by unfold bM;rw[j,Mj];rfl)];rw[j]at f4;refine qf func44 call44 ntmps44 results44 ?_;have F:=ai S8 f;exact SA f1 f2 b f4 f6
 rw[j]at f4;have f5:=Hc env c r.Z4 o.Z4 (Gz e);unfold aA at f5;cases k:(r.over==jx c r.Z4)
 ·rw[a (by unfold bM;rw[k,Mj];rfl)];refine qf func44 call44 ntmps44 results44 ?_;have F:=fI S8 f k;exact Sn f1 f2 b f4 f5 f6
 have z:bM c r=lV r.vars:=by unfold bM;rw[e,g,j,k,show (r.vars.length==c.vars.length)=true by simpa using s];rfl
 have C:=o.vars;refine qf func44 call44 ntmps44 results44 ?_;have F:=fI S8 f k;repeat refine SQ f1 f2 b f4 f5 f6 ?_
 try clear f1 f2 b f4 f5 e g f j k
 refine lq r.vars.length (by omega) (fun i _=>[(52,b0 r.vars),(53,I r.vars.length),(54,I i)]) (fun _ _=>[]) (fun i _ _=>(r.vars.take i).all aL=true) rfl ?_ ?_
 ·rintro i D u l n w v;obtain⟨x,p⟩:=gE l;have f7:=dD env x;cases m:aL x
  ·rw[m]at f7;rw[a (by rw[z];exact ES p m)];have F:=hH S3 n w p;exact m5 f6 f7
  rw[m]at f7;have F:=hH S3 n w p;repeat refine vb f6 f7 ?_
  exact qn (i+1) ⟨l,ER v p m⟩
 rintro D u n v;rw[show sQ d c r=h8 from by unfold sQ;rw[Lj (by rw[z];unfold lV;rwa [M8 (by omega)]at v)]];have F:=n;exact dT
def sG(env:b6)(a b:Addr)(d:fq env a b)(c:aq)(h:b8 c)(f:g6 c)(r:Rc)(e:MT r)(i: ∀t∈r.timers,t.1.length<=9223372036854775807)(g: ∀m∈r.mem,cI m.2.length 8):b7 prog env 44 [aH c, .agg (i8 r)] (sQ a c r):=
 z7 env a b d c h f r e i (pZ env a b d c h f r.mem e.mem g)
def yk(env:b6)(s:List UInt8):b7 prog env 29 [Sg s,h8] h8:=by
 refine qf func29 call29 ntmps29 results29 ?_;repeat refine m8 ?_
 exact p'
def xL(env:b6)(l:List Int)(j:l.length<=1000000):b7 prog env 39 [.agg [b0 l,I 0,ct]] (B (lV l)):=by
 refine qf func39 call39 ntmps39 results39 ?_;repeat refine m8 ?_
 refine PA l.length (by omega) (fun i g=>[(1, .loc 1 (g 1) 0 0),(3,I i)]) (fun _ _=>[(1,⟨3,[[b0 l,I 0,ct]],110,false⟩)]) (fun i _ _=>(l.take i).all aL=true) rfl ?_ ?_
 ·rintro i g e a c h f;obtain⟨x,d⟩:=gE a;have f7:=d6 env x;cases b:aL x
  ·rw[b]at f7;rw[ES d b];have F:=hH S3 c h d;exact g9 f7
  rw[b]at f7;have F:=hH S3 c h d;repeat refine ef f7 ?_
  exact qn (i+1) ⟨a,ER f d b⟩
 rintro g e c f;have f7:=d6 env 0;rw[show lV l=true from by unfold lV;rwa [M8 (by omega)]at f];rw[show aL 0=true from rfl]at f7;have F:=c;exact g9 f7
def zO(env:b6)(c:aq)(h:b8 c)(act:List Int)(a:act.length<=1000000):b7 prog env 35 [.agg (aA c), .seq 1 (act.map aa)] (B (rx c act)):=by
 have f0:=ug env c h act a;unfold rx;refine qf func35 call35 ntmps35 results35 ?_;have F:=aA.eq_1;exact g9 f0
def uc(env:b6)(c:aq)(h:b8 c)(r:Rc)(z:MT r)(d:b7 prog env 36 [.agg (aA c),ff r.mem] (B (bZ c r.mem))):b7 prog env 14 [.agg (aA c), .agg (i8 r)] (B (bM c r)):=by
 have f2:=zO env c h r.Z4 z.Z4;have O:=z.timers;unfold aA at f2 d;cases g:rx c r.Z4
 ·rw[show bM c r=false from by unfold bM;rw[g];rfl];rw[g]at f2;refine qf func14 call14 ntmps14 results14 ?_;have F:=ai SR S8;exact g9 f2
 rw[g]at f2;cases q:bZ c r.mem
 ·rw[show bM c r=false from by unfold bM;rw[q,Mj];rfl];rw[q]at d;refine qf func14 call14 ntmps14 results14 ?_;have F:=ai SR S8;exact m5 f2 d
 rw[q]at d;by_cases A:r.vars.length=c.vars.length
 case neg=>
  rw[show bM c r=false from by unfold bM;rw[show (r.vars.length==c.vars.length)=false by simpa using A,Mj];rfl];have k:((r.vars.length:Int) != (c.vars.length:Int))=true:=by simp;omega
  refine qf func14 call14 ntmps14 results14 ?_;have F:=fI SR S8 k;exact m5 f2 d
 have k:((r.vars.length:Int) != (c.vars.length:Int))=false:=by simp[A]
 by_cases P:8<r.timers.length
 ·have s:(8:Int)< (r.timers.length:Int):=by omega
  rw[show bM c r=false from by unfold bM dL;rw[MU (show ¬r.timers.length<=8 by omega),Mj,Mj];rfl];refine qf func14 call14 ntmps14 results14 ?_;have F:=hH SR S8 k s;exact m5 f2 d
 have s: ¬(8:Int)< (r.timers.length:Int):=by omega
 have f5:=FX env c r.Z4 z.Z4 (Gz g);unfold aA at f5;cases t:(r.over==jx c r.Z4)
 ·rw[show bM c r=false from by unfold bM;rw[t,Mj];rfl];refine qf func14 call14 ntmps14 results14 ?_;have F:=g7 SR S8 k s t;exact x5 f2 d f5
 have L:bM c r=(DJ r.timers.length (kR r.timers)&&lV r.vars):=by
  unfold bM dL;rw[g,q,t,show (r.vars.length==c.vars.length)=true by simpa using A,M2 (show r.timers.length<=8 by omega),Pn];simp
 rw[L];refine qf func14 call14 ntmps14 results14 ?_;have F:=g7 SR S8 k s t;repeat refine Qs f2 d f5 ?_
 try clear f2 d f5 g q k s t L
 have F:=i8.eq_1;refine lq r.timers.length (by omega) (fun i E=>[(3, .loc 3 (E 3) 0 0),(5,I i)]) (fun _ _=>[(3,⟨5,[i8 r],31,false⟩)]) (fun i _ _=> ∀j,j<i->kR r.timers j=true) (fun j N=>by omega) ?_ ?_
 ·rintro i E C e f l w;obtain⟨x,b⟩:=gE e;have f1:=eu env x.1;have a:kR r.timers i=false->(DJ r.timers.length (kR r.timers)&&lV r.vars)=false:=fun h=>by rw[tP e h];rfl
  cases o:bl x.1
  ·rw[a (by unfold kR;rw[eD b,o];rfl)];rw[o]at f1;have F:=g7 S8 f l b S5;exact g9 f1
  rw[o]at f1;by_cases p:x.2<0
  ·rw[a (by unfold kR BM;rw[eD b,MU (by omega),Mj];rfl)];have F:=ip S8 f l b S5 p;exact g9 f1
  by_cases u:1099511627776<x.2
  ·rw[a (by unfold kR BM;rw[eD b,MU (by omega),Mj];rfl)];have F:=lP S8 f l b S5 p u;exact g9 f1
  have G:BM x.2=true:=M2 ⟨by omega,by omega⟩;by_cases K:i=0
  ·have v: ¬(0:Int)< (i:Int):=by omega
   have F:=ns S8 f l b S5 p u v;repeat refine ef f1 ?_
   refine⟨i+1,⟨e,tO w ?_⟩,?_,?_,by omega⟩
   ·unfold kR;rw[eD b,o,G,M2 K];rfl
   ·exact qe
   have F:=i8.eq_1;exact qe
  have v:(0:Int)< (i:Int):=by omega
  have H:IntKind.i64.wrap ((i:Int)-1)=((i-1:Nat):Int):=L3 i 1 (by omega) (by omega);have J:((i-1:Nat):Int)< (r.timers.length:Int):=by omega
  obtain⟨y,D⟩: ∃y,r.timers[i-1]? =some y:=⟨r.timers[i-1],Lc (by omega)⟩;have M:kR r.timers i= !(Op.bytesLess x.1 y.1||x.1==y.1):=by unfold kR;rw[eD b,eD D,o,G,MU K,pH];rfl
  by_cases m:(Op.bytesLess x.1 y.1||x.1==y.1)=true
  ·rw[a (by rw[M,m];rfl)];have F:=dk S8 f l b S5 p u v H J D m;exact g9 f1
  have m:(Op.bytesLess x.1 y.1||x.1==y.1)=false:=by simpa using m
  have F:=dk S8 f l b S5 p u v H J D m;repeat refine ef f1 ?_
  refine⟨i+1,⟨e,tO w (by rw[M,m];rfl)⟩,?_,?_,by omega⟩
  ·exact qe
  have F:=i8.eq_1;exact qe
 rintro E C f w;have f4:=xL env r.vars z.vars;rw[pW (n:=r.timers.length) fun j N=>w j (by omega),M5];have F:=ai S8 f;exact g9 f4
def xK(env:b6)(c:aq)(h:b8 c)(r:Rc)(a:MT r)(b: ∀m∈r.mem,cI m.2.length 8):b7 prog env 14 [.agg (aA c), .agg (i8 r)] (B (bM c r)):=
 uc env c h r a (xP env c h r.mem a.mem b)
end
section
def As(b:Bool):List AV:=[B b]
def dm(w:ph):List AV:=[b0 w.vars,I w.data, .seq 1 (w.act.map As)]
def Th:=@dm.eq_1
def lD{n:Int}(h:aL n=true):IntKind.i64.wrap n=n:=by
 rw[bw]at h;exact aW (by omega) (by omega)
def gI{n:Int}(h:Rb n):IntKind.i64.wrap n=n:=by
 unfold Rb at h;exact aW (by omega) (by omega)
def jM(env:b6)(b:Bool):b7 prog env 288 [B b] (I (No b)):=by
 cases b
 ·show b7 _ _ _ _ (I 0);refine qf func288 call288 ntmps288 results288 ?_;repeat refine m8 ?_
  exact p'
 show b7 _ _ _ _ (I 1);refine qf func288 call288 ntmps288 results288 ?_;repeat refine m8 ?_
 exact p'
def vO(env:b6)(k a:Int)(d:k=5\/k=6)(c:aL a=true):b7 prog env 278 [I k,I a] (.tuple [I (Qe k a),B true]):=by
 have f0:=jM env (a==0);rcases d with rfl|rfl
 ·have b:IntKind.i64.wrap (0-a)=Qe 5 a:=lD (Dj 5 c);refine qf func278 call278 ntmps278 results278 ?_;have F:=b;exact g9 f0
 have b:No (a==0)=Qe 6 a:=rfl;refine qf func278 call278 ntmps278 results278 ?_;have F:=b;exact g9 f0
def H8(env:b6)(k a b:Int)(e:k=8\/k=9)(g:aL a=true):b7 prog env 289 [I k,I a,I b] (.tuple [I (jt k a b).1,B (jt k a b).2]):=by
 by_cases c:b=0
 ·subst c;have d:jt k a 0=(0,false):=by rcases e with rfl|rfl<;>rfl
  rw[d];refine qf func289 call289 ntmps289 results289 ?_;repeat refine m8 ?_
  exact p'
 have f:(b==0)=false:=by simpa using c
 rcases e with rfl|rfl
 ·have d:jt 8 a b=(a.tdiv b,true):=by simp[jt,c]
  have h:=lD (lF (b:=b) g);rw[d];refine qf func289 call289 ntmps289 results289 ?_;have F:=fI f h c;exact dT
 have d:jt 9 a b=(a.tmod b,true):=by simp[jt,c]
 rw[d];refine qf func289 call289 ntmps289 results289 ?_;have F:=ai f c;exact dT
def zh(env:b6)(k a b:Int)(c:12<=k/\k<=17):b7 prog env 290 [I k,I a,I b] (B (E' k a b)):=by
 obtain rfl|rfl|rfl|rfl|rfl|rfl:k=12\/k=13\/k=14\/k=15\/k=16\/k=17:=by omega
 all_goals (refine ke func290 rfl call290 (by rw [ntmps290]; simp) ?_
            rw[ntmps290,results290])
 all_goals have F:=E'.eq_1
 all_goals (repeat refine st ?_)
 all_goals ((refine aM ?_;show (ag _ _ _).run _=some _;simp only[go_sem,F]))
def tG(env:b6)(k a b:Int)(p:7<=k/\k<=19)(n:aL a=true)(o:aL b=true):b7 prog env 279 [I k,I a,I b] (.tuple [I (jt k a b).1,B (jt k a b).2]):=by
 have c:=(tH k n o).1;by_cases l:k=7
 ·subst l;have f0:=dD env (a*b);have e:IntKind.i64.wrap (a*b)=a*b:=gI c;show b7 _ _ _ _ (.tuple [I (a*b),B (aL (a*b))]);refine qf func279 call279 ntmps279 results279 ?_;have F:=e;exact g9 f0
 by_cases m:k=8\/k=9
 ·have f0:=H8 env k a b m n;generalize jt k a b=R at*;rcases m with rfl|rfl
  ·refine qf func279 call279 ntmps279 results279 ?_;repeat refine jL f0 ?_
   exact p'
  refine qf func279 call279 ntmps279 results279 ?_;repeat refine jL f0 ?_
  exact p'
 by_cases f:k=10
 ·subst f;have f0:=dD env (a+b);have e:IntKind.i64.wrap (a+b)=a+b:=gI c;show b7 _ _ _ _ (.tuple [I (a+b),B (aL (a+b))]);refine qf func279 call279 ntmps279 results279 ?_;have F:=e;exact g9 f0
 by_cases g:k=11
 ·subst g;have f0:=dD env (a-b);have e:IntKind.i64.wrap (a-b)=a-b:=gI c;show b7 _ _ _ _ (.tuple [I (a-b),B (aL (a-b))]);refine qf func279 call279 ntmps279 results279 ?_;have F:=e;exact g9 f0
 have j: ∀t:Bool,b7 prog env 46 [I (No t)] (B true):=fun t=>by
  have:=dD env (No t);rwa [gN]at this
 by_cases h:k=18
 ·subst h;show b7 _ _ _ _ (.tuple [I (No (a != 0&&b != 0)),B true]);have f0:=jM env (a != 0&&b != 0);have f1:=j (a != 0&&b != 0);cases d:(a != 0)
  ·rw[d]at f0 f1;refine qf func279 call279 ntmps279 results279 ?_;have F:=d;exact m5 f0 f1
  rw[d]at f0 f1;refine qf func279 call279 ntmps279 results279 ?_;have F:=d;exact m5 f0 f1
 by_cases i:k=19
 ·subst i;show b7 _ _ _ _ (.tuple [I (No (a != 0||b != 0)),B true]);have f0:=jM env (a != 0||b != 0);have f1:=j (a != 0||b != 0);cases d:(a != 0)
  ·rw[d]at f0 f1;refine qf func279 call279 ntmps279 results279 ?_;have F:=d;exact m5 f0 f1
  rw[d]at f0 f1;refine qf func279 call279 ntmps279 results279 ?_;have F:=d;exact m5 f0 f1
 have e:jt k a b=(No (E' k a b),true):=by
  unfold jt;rw[Lf l,Lf (by omega),Lf (by omega),Lf f,Lf g,Lf h,Lf i]
 rw[e];have f0:=zh env k a b (by omega);have f1:=jM env (E' k a b);have f2:=j (E' k a b);generalize E' k a b=R at*;obtain rfl|rfl|rfl|rfl|rfl|rfl:k=12\/k=13\/k=14\/k=15\/k=16\/k=17:=by omega
 all_goals (refine ke func279 rfl call279 (by rw [ntmps279]; simp) ?_
            rw[ntmps279,results279])
 all_goals (repeat refine HF f0 f1 f2 ?_)
 all_goals ((refine aM ?_;show (ag _ _ _).run _=some _;simp only[go_sem]))
def Ae(env:b6)(w:ph)(o:lf)(c:1<=o.kind/\o.kind<=4)(h:mZ o w.vars.length w.act.length=true):b7 prog env 277 [.agg (bV o), .agg (dm w)] (I (l' w o)):=by
 obtain⟨k,n⟩:=o;simp only at c;unfold l';unfold mZ at h;simp only at h |-;obtain rfl|rfl|rfl|rfl:k=1\/k=2\/k=3\/k=4:=by omega
 ·show b7 _ _ _ _ (I n);refine qf func277 call277 ntmps277 results277 ?_;have F:=ai S1 Th;exact dT
 ·have h:0<=n/\n<w.vars.length:=by simpa using h
  obtain⟨m,rfl⟩:=fO h.1;have a:(m:Int)< (w.vars.length:Int):=h.2;have b:w.vars[m]? =some (w.vars.getD m 0):=by rw[MJ,Lc (by omega)];rfl
  show b7 _ _ _ _ (I (w.vars.getD ((m:Int).toNat) 0));rw[Mz];refine qf func277 call277 ntmps277 results277 ?_;have F:=g7 S1 Th S3 a b;exact dT
 ·show b7 _ _ _ _ (I w.data);refine qf func277 call277 ntmps277 results277 ?_;have F:=ai S1 Th;exact dT
 have h:0<=n/\n<w.act.length:=by simpa using h
 obtain⟨m,rfl⟩:=fO h.1;have a:(m:Int)< (w.act.length:Int):=h.2;have b:w.act[m]? =some (w.act.getD m false):=by rw[MJ,Lc (by omega)];rfl
 show b7 _ _ _ _ (I (No (w.act.getD ((m:Int).toNat) false)));rw[Mz];have f0:=jM env (w.act.getD m false);generalize w.act.getD m false=t at*;refine qf func277 call277 ntmps277 results277 ?_;have F:=g7 S1 Th As.eq_1 a b;exact g9 f0
end
section
def sI{c:aq}{act:List Int}(h:rx c act=true): ∃l:List Nat,act=zL l/\ ∀k∈l,k<c.Z9.length:=by
 have i:=(yZ.1 h).1
 have f: ∀x∈act,0<=x/\x< (c.Z9.length:Int):=fun x a=>by
  obtain⟨n,d,e⟩:=NC a;have:=i n d;rw[sK (Ld.2 ⟨d,e⟩),Li]at this;have b:=this.2;cases g:ed c x with
  |false=>rw[oR g]at b;cases b
  |true=>exact aI.1 g
 refine⟨act.map Int.toNat,?_,fun k j=> ?_⟩
 ·unfold zL;rw[OE];refine((NO fun x a=> ?_).trans (Q2 act)).symm;have:=f x a;show ((x.toNat:Nat):Int)=x;omega
 obtain⟨x,a,rfl⟩:=Lp.1 j;have:=f x a;omega
def HH(c:aq)(l:List Nat)(k:Nat):Bool:=bx (zL l) (av c k true)==0
def sT(c:aq)(l:List Nat)(j:Nat):List Nat:=(l.take j).filter (HH c l)
def u'(c:aq)(l:List Nat):List Nat:=bt c (zL (sT c l l.length))
def vq{c:aq}{l:List Nat}{j k:Nat}(h:l[j]? =some k):sT c l (j+1)=if HH c l k then sT c l j++[k] else sT c l j:=by
 unfold sT;rw[MM,h,MR];cases a:HH c l k<;>simp[a]
def oH(c:aq)(l:List Nat)(j:Nat):(sT c l j).length<=l.length:=by
 unfold sT;exact Ly (MF ..) (by rw[Lw];omega)
def z8(env:b6)(c:aq)(h:b8 c)(l:List Nat)(A:l.length<=1000)(v: ∀k∈l,k<c.Z9.length):b7 prog env 141 [aH c, .seq 1 (l.map aB)] (.own 3 1 ((u' c l).map aB)):=by
 have r:=h.Z6;have f0:=jS env c (by omega) (zL l) (by rw[ak];omega);rw[b9]at f0;have f1:=fun k:Nat=>bc env c h k;have f2:=fun k:Nat=>tv env c.Z9.length (zL l) (av c k true) (by omega) (by have:=bC h.toRight k true;omega) (fun j u=>by have:=bH h.toRight (aY u).1;omega);have f3:=bP env c;have f4:=fY env c h.toRight (zL (sT c l l.length)) (by rw[ak];have:=oH c l l.length;omega);rw[b9]at f4;show b7 _ _ _ _ (.own _ 1 ((bt c (zL (sT c l l.length))).map aB));generalize bt c (zL (sT c l l.length))=R at*;unfold aQ at f3 f4;unfold aH at f0 f1 f3 |-;generalize o:kb c.Z9.length (zL l)=z at*;try clear o
 refine qf func141 call141 ntmps141 results141 ?_;repeat refine m8 ?_
 refine am 5 5 3 1 ?_;refine PA l.length (by omega) (fun j x=>[(0, .ref 9 [ca c] 0 0),(1, .seq 1 (l.map aB)),(5, .row 5 (x 5)),(8, .seq 1 (l.map aB)),(9,I l.length),(10,I j)]) (fun j _=>[(5,⟨1,(sT c l j).map aB,3,true⟩)]) (fun j _ a=>a 5=false) rfl ?_ ?_
 ·rintro j y a b m s d;obtain⟨k,i⟩:=gE b;have p:=v k (Lh i);have f1:=f1 k;rw[Lj (.inr (aV.2 p))]at f1;have f2:=f2 k;have w:=oH c l j;have t:cI ((sT c l j).length+1) 8:=aC (by omega) (by omega);have g:=vq (c:=c) i;have e:HH c l k=(bx (zL l) (av c k true)==0):=rfl;cases f:HH c l k with
  | true=>
    rw[f,Lj rfl]at g;rw[f]at e
    have n:(((bx (zL l) (av c k true):Nat):Int)==0)=true:=by
     have:=Mh.1 e.symm;simp;omega
    have F:=lP SU i m s n t d;repeat refine Qs f0 f1 f2 ?_
    refine⟨j+1,⟨b,by simp only[go_sem,d]⟩,?_,?_,by omega⟩
    ·exact qe
    have F:=fI SU g @Ln.{0,0};exact qe
  | false=>
    rw[f,Lf MW]at g;rw[f]at e
    have n:(((bx (zL l) (av c k true):Nat):Int)==0)=false:=by
     have: ¬bx (zL l) (av c k true)=0:=fun q=>by rw[q]at e;cases e
     simp;omega
    have F:=ip SU i m s n d;repeat refine Qs f0 f1 f2 ?_
    refine⟨j+1,⟨b,by simp only[go_sem,d]⟩,?_,?_,by omega⟩
    ·exact qe
    have F:=ai SU g;exact qe
 rintro y a m d;have F:=ai m d;exact m5 f3 f4
def xN(env:b6)(c:aq)(h:b8 c)(l:List Nat)(w:l.length<=1000)(t: ∀k∈l,k<c.Z9.length):b7 prog env 123 [.agg (aA c), .seq 1 (l.map aB)] (.own 3 1 ((u' c l).map aB)):=by
 have o:=h.Z6;have _u:=t;have f1:=fun k:Nat=>be env c k true (by omega);have f2:=fun k:Nat=>fg env (zL l) (av c k true) (by rw[ak];omega) (by have:=bC h.toRight k true;omega);rw[b9]at f2;have f4:=lM env c h.toRight (sT c l l.length) (by have:=oH c l l.length;omega);show b7 _ _ _ _ (.own _ 1 ((bt c (zL (sT c l l.length))).map aB));generalize bt c (zL (sT c l l.length))=R at*;refine qf func123 call123 ntmps123 results123 ?_;have F:=aA.eq_1;repeat refine st ?_
 have F:=aA.eq_1;refine lq l.length (by omega) (fun j r=>[(1, .seq 1 (l.map aB)),(2, .loc 2 (r 2) 0 0),(5, .row 7 (r 7)),(6,I j)]) (fun j _=>[(2,⟨5,[aA c],26,false⟩),(7,⟨1,(sT c l j).map aB,3,true⟩)]) (fun j _ a=>a 7=false) rfl ?_ ?_
 ·rintro j v a b i p d;obtain⟨k,n⟩:=gE b;have f1:=f1 k;have f2:=f2 k;have u:=oH c l j;have s:cI ((sT c l j).length+1) 8:=aC (by omega) (by omega);have g:=vq (c:=c) n;have e:HH c l k=(bx (zL l) (av c k true)==0):=rfl;cases f:HH c l k with
  | true=>
    rw[f,Lj rfl]at g;rw[f]at e
    have m:(((bx (zL l) (av c k true):Nat):Int)==0)=true:=by
     have:=Mh.1 e.symm;simp;omega
    have F:=ns SR SU n i p m s d;repeat refine vb f1 f2 ?_
    refine⟨j+1,⟨b,by simp only[go_sem,d]⟩,?_,?_,by omega⟩
    ·exact qe
    have F:=hH SR SU g @Ln.{0,0};exact qe
  | false=>
    rw[f,Lf MW]at g;rw[f]at e
    have m:(((bx (zL l) (av c k true):Nat):Int)==0)=false:=by
     have: ¬bx (zL l) (av c k true)=0:=fun q=>by rw[q]at e;cases e
     simp;omega
    have F:=lP SR SU n i p m d;repeat refine vb f1 f2 ?_
    refine⟨j+1,⟨b,by simp only[go_sem,d]⟩,?_,?_,by omega⟩
    ·exact qe
    have F:=fI SR SU g;exact qe
 rintro v a i d;have F:=fI SR i d;exact g9 f4
def Fb(env:b6)(b d:Addr)(f:fq env b d)(c:aq)(h:b8 c)(a:g6 c)(l:List Nat)(i:l.length<=1000)(g: ∀k∈l,k<c.Z9.length)(e:rx c (zL l)=true):b7 prog env 86 [aH c, .seq 1 (l.map aB)] (.tuple [.seq 1 ((u' c l).map aB),h8]):=by
 have f0:=cd env b d f c h a (zL l) (by rw[ak];omega);unfold vA at f0;rw[Lj e,b9]at f0;have f1:=z8 env c h l i g;unfold aH at f0 f1 |-;generalize u' c l=R at*;refine qf func86 call86 ntmps86 results86 ?_;repeat refine zy f0 f1 ?_
 exact p'
end
section
def fP(w:ph)(g:List lf):Option Bool:=if g=[] then some true else(kO w g).map fun n=>n != 0
def jH(c:aq)(n:Nat):List lf:=match c.trans[n]? with
 |some t=>t.guard
 |none=>[]
def da(c:aq)(n:Nat):sh:=c.trans.getD n ⟨0,[],[],[],0⟩
def cx{c:aq}{n:Nat}{t:sh}(h:c.trans[n]? =some t):da c n=t:=by
 unfold da;rw[MJ,h];rfl
inductive Fd where
 |no
 |one (n:Nat)
 |bad (n:Nat)
def cN(c:aq)(w:ph):List Nat->Fd
 |[]=> .no
 | n::l=>match fP w (jH c n) with
   |none=> .bad n
   |some true=> .one n
   |some false=>cN c w l
def cv(c:aq)(w:ph)(ev:List UInt8):List Int->Fd
 |[]=> .no
 | k::l=>match cN c w (g5 c k ev c.trans.length) with
   | .no=>cv c w ev l
   |r=>r
def cM(c:aq)(w:ph)(ev:List UInt8):List Nat->List Nat->Except Nat (List Nat)
 |[],o=> .ok o
 | i::l,o=>match cv c w ev ((i:Int)::i' c i) with
   | .bad n=> .error n
   | .no=>cM c w ev l o
   | .one n=>cM c w ev l (if o.contains n then o else o++[n])
def bd(c:aq)(act:List Int)(a b:Nat):Bool:=(fe c act (da c a)).any fun i=>(fe c act (da c b)).contains i
def lR(c:aq)(act:List Int)(n k:Nat):Bool:= !bd c act k n||aE c (da c k).src (da c n).src
def k5(c:aq)(act:List Int)(l:List Nat)(n:Nat):List Nat:=if l.all (lR c act n) then(l.filter fun k=> !bd c act k n)++[n] else l
def DY(c:aq)(act:List Int)(l:List Nat):List Nat:=l.foldl (k5 c act) []
def mo(c:aq)(act:List Int)(w:ph)(ev:List UInt8)(a:List Nat):Except Nat (List Nat):=match cM c w ev a []with
 | .ok l=> .ok (DY c act l)
 | .error n=> .error n
structure Fit(c:aq)(act:List Int)(l:List Nat):Prop where
 real: ∀n∈l,∃t,c.trans[n]? =some t/\t.src∈act
 two:l.Pairwise fun k n=>k≠n/\bd c act k n=false
def Fit.nil(c:aq)(act:List Int):Fit c act []:=⟨fun _ h=>by simp at h, .nil⟩
def Fit.take{c:aq}{act:List Int}{l:List Nat}(h:Fit c act l){n:Nat}(k: ∃t,c.trans[n]? =some t/\t.src∈act)(j:n∉l):Fit c act (k5 c act l n):=by
 unfold k5;split
 ·refine⟨fun m hm=> ?_,?_⟩
  ·rcases ML.1 hm with hm|hm
   ·exact h.real m (Lq.1 hm).1
   rw[MA.1 hm];exact k
  refine OR.2 ⟨h.two.sublist My,Od ..,fun a g b i=> ?_⟩;rw[MA.1 i];obtain⟨d,f⟩:=Lq.1 g;exact⟨fun e=>j (e ▸ d),by simpa using f⟩
 exact h
def tZ{c:aq}{act:List Int}{l:List Nat}{n m:Nat}(h:m∈k5 c act l n):m∈l\/m=n:=by
 unfold k5 at h;split at h
 ·rcases ML.1 h with h|h
  ·exact .inl (Lq.1 h).1
  exact .inr (MA.1 h)
 exact .inl h
def Aq{c:aq}{act:List Int} : ∀(l:List Nat)(o:List Nat),Fit c act o->(∀n∈l,∃t,c.trans[n]? =some t/\t.src∈act)->l.Nodup->(∀n∈l,n∉o)->Fit c act (l.foldl (k5 c act) o)
 |[],o,h,_,_,_=>h
 | n::l,o,h,b,g,d=>by
   obtain⟨i,j⟩:=Nm.1 g;refine Aq l _ (h.take (b n (by simp)) (d n (by simp))) (fun m a=>b m (by simp[a])) j fun m a f=> ?_;rcases tZ f with e|e
   ·exact d m (by simp[a]) e
   exact i (e ▸ a)
def Av{c:aq}{w:ph}{n:Nat} : ∀ {l:List Nat},cN c w l= .one n->n∈l
 |[],h=>by simp[cN]at h
 | k::l,h=>by
   unfold cN at h;split at h
   ·cases h
   ·cases h;simp
   exact NJ _ (Av h)
def yB{c:aq}{w:ph}{ev:List UInt8}{n:Nat} : ∀ {l:List Int},cv c w ev l= .one n-> ∃k∈l,∃t,c.trans[n]? =some t/\t.src=k/\t.Z8=ev
 |[],h=>by simp[cv]at h
 | k::l,h=>by
   unfold cv at h;split at h
   ·obtain⟨j,d,q⟩:=yB h;exact⟨j,NJ _ d,q⟩
   ·rename_i r f;have:=Av h;unfold g5 at this;obtain⟨e,a⟩:=Lq.1 this;unfold jA at a;cases b:c.trans[n]? with
    |none=>rw[b]at a;cases a
    | some t=>
      rw[b]at a;simp only[Lt]at a;exact⟨k,by simp,t,rfl,a.1,a.2⟩
def uL{c:aq}(h:b8 c){act:List Int}(q:Lg c act){w:ph}{ev:List UInt8} : ∀(l o f:List Nat),cM c w ev l o= .ok f->(∀i∈l,(i:Int)∈act)->(∀n∈o,∃t,c.trans[n]? =some t/\t.src∈act/\t.Z8=ev)->o.Nodup->(∀n∈f,∃t,c.trans[n]? =some t/\t.src∈act/\t.Z8=ev)/\f.Nodup
 | [],o,f,e,_,g,d=>by
   simp only[cM,Except.ok.injEq]at e;subst e;exact⟨g,d⟩
 | i::l,o,f,e,u,g,d=>by
   unfold cM at e;split at e
   ·cases e
   ·exact uL h q l o f e (fun j r=>u j (by simp[r])) g d
   rename_i n C;refine uL h q l _ f e (fun j r=>u j (by simp[r])) ?_ ?_
   ·obtain⟨k,hk,t,x,D,p⟩:=yB C;have v:=u i (by simp);have y:=(h.src x).1
    have s:t.src∈act:=by
     rw[D]at y |-;rcases MI.1 hk with e|hk
     ·rw[e];exact v
     exact q.up h.toRight ((i:Int).toNat+1) i k (by omega) v hk (aI.1 y).1
    split
    ·exact g
    intro m hm;rcases ML.1 hm with hm|hm
    ·exact g m hm
    rw[MA.1 hm];exact⟨t,x,s,p⟩
   split
   ·exact d
   rename_i B;refine Nc.2 ⟨d,by simp,fun a z b A e=>B ?_⟩;rw[MA.1 A]at e;rw[Lk, <-e];exact z
def Ju{c:aq}(h:b8 c){l:List Nat}(d: ∀k∈l,k<c.Z9.length){i:Nat}(hi:i∈u' c l):i∈l:=by
 have b: ∀j,j∈sT c l l.length->j∈l:=fun j a=>N6 (Lq.1 a).1
 have g:(zL (sT c l l.length)).all (ed c)=true:=Lm.2 fun x f=>by
  obtain⟨j,a,rfl⟩:=Lp.1 f;exact aV.2 (d j (b j a))
 unfold u' at hi;rw[AF h.toRight g]at hi;obtain⟨j,a,e⟩:=Lp.1 hi;have:j=i:=by omega
 exact this ▸ b j a
def IQ{c:aq}(h:b8 c){act:List Int}(j:Lg c act){w:ph}{ev:List UInt8}{a f:List Nat}(hi: ∀i∈a,(i:Int)∈act)(e:mo c act w ev a= .ok f):Fit c act f:=by
 unfold mo at e;split at e
 ·rename_i l m;cases e;obtain⟨d,g⟩:=uL h j a [] l m hi (fun n b=>by simp at b) .nil;exact Aq l [] (Fit.nil c act) (fun n b=>by obtain⟨t,o,p,_⟩:=d n b;exact⟨t,o,p⟩) g (fun n _ k=>by simp at k)
 cases e
end
end Go.Proofs.YtknkhdgfhbogdaaGreatDoor
