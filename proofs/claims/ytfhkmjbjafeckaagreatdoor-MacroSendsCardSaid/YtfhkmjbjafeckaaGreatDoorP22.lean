/- Which transitions are enabled, plain: they may be taken together. No program is named here. -/
import Derived.Test.YtfhkmjbjafeckaaGreatDoorP21
import Derived.Test.YtfhkmjbjafeckaaGreatDoorP7
set_option maxRecDepth 100000
set_option maxHeartbeats 16000000
set_option linter.unusedSimpArgs false
set_option linter.defProp false
namespace Go.Proofs.YtfhkmjbjafeckaaGreatDoor
open Go.Proofs.Tryz
open Go.RowKit
section
def gZ(c:aq)(x:Int):Bool:=match c.Z9[x.toNat]? with
 |some s=>decide (s.parent<0)&&(s.kind==3)
 |none=>false
def kK(c:aq)(act:List Int):Bool:=act.any (gZ c)
def zp{c:aq}{act:List Int}{i:Nat}{x:Int}(a:(act.take i).any (gZ c)=false)(b:act[i]? =some x)(h:gZ c x=false):(act.take (i+1)).any (gZ c)=false:=by
 rw[N1,b,List.any_append,a];simp[h]
def Fw{c:aq}{act:List Int}{i:Nat}{x:Int}(a:act[i]? =some x)(h:gZ c x=true):kK c act=true:=OE.2 ⟨x,Mv a,h⟩
def Iy(env:b8)(c:aq)(act:List Int)(v:act.length<=1000000)(t: ∀x∈act,0<=x/\x<c.Z9.length):b7 prog env 132 [.agg (aA c),cf act] (B (kK c act)):=by
 refine qf func132 call132 ntmps132 results132 ?_;have F:=aA.eq_1;repeat refine st ?_
 have F:=aA.eq_1;refine lq act.length (by omega) (fun i o=>[(2, .loc 2 (o 2) 0 0),(7,cf act),(8,I act.length),(9,I i)]) (fun _ _=>[(2,⟨5,[aA c],26,false⟩)]) (fun i _ _=>(act.take i).any (gZ c)=false) rfl ?_ ?_
 ·rintro i o j a e l f;obtain⟨x,b⟩:=gE a;obtain⟨r,u⟩:=t x (Mv b);obtain⟨k,rfl⟩:=Qp r;have q:k<c.Z9.length:=by omega
  obtain⟨s,g⟩:=gE q;have m:=it q;have n:gZ c k=(decide (s.parent<0)&&(s.kind==3)):=by unfold gZ;rw[OS,g]
  by_cases d:s.parent<0
  ·by_cases h:s.kind=3
   ·rw[Fw b (by rw[n,Ni d,h];rfl)];have F:=lE Uv Uw UE e l m b g d h;exact ek
   have p:(s.kind==3)=false:=by simpa using h
   have F:=lE Uv Uw UE e l m b g d p;repeat refine st ?_
   refine⟨i+1,⟨a,zp f b (by rw[n,p,OB])⟩,?_,?_,by omega⟩
   ·exact qe
   have F:=aA.eq_1;exact qe
  have F:=qr Uv Uw UE e l m b g d;repeat refine st ?_
  refine⟨i+1,⟨a,zp f b (by rw[n,N7 d,Ng])⟩,?_,?_,by omega⟩
  ·exact qe
  have F:=aA.eq_1;exact qe
 rintro o j e f;rw[show kK c act=false from by rwa [Nq (by omega)]at f];have F:=e;exact ek
def Gf(env:b8)(c:aq)(act:List Int)(v:act.length<=1000000)(t: ∀x∈act,0<=x/\x<c.Z9.length):b7 prog env 79 [.agg (aA c),cf act] (B (kK c act)):=by
 refine qf func79 call79 ntmps79 results79 ?_;have F:=aA.eq_1;repeat refine st ?_
 have F:=aA.eq_1;refine lq act.length (by omega) (fun i o=>[(1,cf act),(2, .loc 2 (o 2) 0 0),(5,I i)]) (fun _ _=>[(2,⟨5,[aA c],26,false⟩)]) (fun i _ _=>(act.take i).any (gZ c)=false) rfl ?_ ?_
 ·rintro i o j a e l f;obtain⟨x,b⟩:=gE a;obtain⟨r,u⟩:=t x (Mv b);obtain⟨k,rfl⟩:=Qp r;have q:k<c.Z9.length:=by omega
  obtain⟨s,g⟩:=gE q;have m:=it q;have n:gZ c k=(decide (s.parent<0)&&(s.kind==3)):=by unfold gZ;rw[OS,g]
  by_cases d:s.parent<0
  ·by_cases h:s.kind=3
   ·rw[Fw b (by rw[n,Ni d,h];rfl)];have F:=lE Uv Uw UE e l m b g d h;exact ek
   have p:(s.kind==3)=false:=by simpa using h
   have F:=lE Uv Uw UE e l m b g d p;repeat refine st ?_
   refine⟨i+1,⟨a,zp f b (by rw[n,p,OB])⟩,?_,?_,by omega⟩
   ·exact qe
   have F:=aA.eq_1;exact qe
  have F:=qr Uv Uw UE e l m b g d;repeat refine st ?_
  refine⟨i+1,⟨a,zp f b (by rw[n,N7 d,Ng])⟩,?_,?_,by omega⟩
  ·exact qe
  have F:=aA.eq_1;exact qe
 rintro o j e f;rw[show kK c act=false from by rwa [Nq (by omega)]at f];have F:=e;exact ek
def JF(env:b8)(l:List (List UInt8×Int))(G:l.length<=9223372036854775807)(D: ∀t∈l,t.1.length<=9223372036854775807):b7 prog env 131 [.seq 2 (l.map c0)] (B (dP l)):=by
 refine qf func131 call131 ntmps131 results131 ?_;repeat refine m9 ?_
 refine RK l.length (by omega) (fun i _=>[(0, .seq 2 (l.map c0)),(5, .seq 2 (l.map c0)),(6,I l.length),(7,I i)]) (fun _ _=>[]) (fun i _ _=> ∀j,j<i->ki l j=true) (fun j C=>by omega) ?_ ?_
 ·rintro i E r c d f q;obtain⟨x,b⟩:=gE c;have f1:=eC env x.1 (D x (Lx b));have a:ki l i=false->dP l=false:=fun h=>by rw[dP,uQ c h];rfl
  cases k:bp x.1
  ·rw[a (by unfold ki;rw[eK b,k];rfl)];rw[k]at f1;have F:=hU d f b UG;exact hH f1
  rw[k]at f1;by_cases m:x.2<0
  ·rw[a (by unfold ki CY;rw[eK b,N7 (by omega),OB];rfl)];have F:=g9 d f b UG m;exact hH f1
  by_cases o:1099511627776<x.2
  ·rw[a (by unfold ki CY;rw[eK b,N7 (by omega),OB];rfl)];have F:=i' d f b UG m o;exact hH f1
  have u:CY x.2=true:=Ni ⟨by omega,by omega⟩;by_cases z:i=0
  ·have p: ¬(0:Int)< (i:Int):=by omega
   have F:=mc d f b UG m o p;repeat refine fc f1 ?_
   refine⟨i+1,⟨c,uP q ?_⟩,?_,?_,by omega⟩
   ·unfold ki;rw[eK b,k,u,Ni z];rfl
   ·exact qe
   exact qe
  have p:(0:Int)< (i:Int):=by omega
  have v:IntKind.i64.wrap ((i:Int)-1)=((i-1:Nat):Int):=Mi i 1 (by omega) (by omega);have w:((i-1:Nat):Int)< (l.length:Int):=by omega
  obtain⟨y,s⟩: ∃y,l[i-1]? =some y:=⟨l[i-1],Mq (by omega)⟩;have A:ki l i= !(Op.bytesLess x.1 y.1||x.1==y.1):=by unfold ki;rw[eK b,eK s,k,u,N7 z,pu];rfl
  by_cases g:(Op.bytesLess x.1 y.1||x.1==y.1)=true
  ·rw[a (by rw[A,g];rfl)];have F:=ql d f b UG m o p v w s g;exact hH f1
  have g:(Op.bytesLess x.1 y.1||x.1==y.1)=false:=by simpa using g
  have F:=ql d f b UG m o p v w s g;repeat refine fc f1 ?_
  exact qn (i+1) ⟨c,uP q (by rw[A,g];rfl)⟩
 rintro E r d q
 have e:dP l=decide ((l.length:Int)<=8):=by
  rw[dP,qM (n:=l.length) fun j C=>q j (by omega),Nj];exact decide_eq_decide.2 (by omega)
 rw[e];have F:=d;exact ek
def HP(env:b8)(a b:Addr)(d:fU env a b)(s:List UInt8):b7 prog env 65 [Sg s] (dt (-1) (bx a)):=by
 have c:=iT d.e1;have f1:=bl env s a;refine qf func65 call65 ntmps65 results65 ?_;have F:=c;exact hH f1
structure If(r:Rc):Prop where
 Z4:r.Z4.length<=1000000
 vars:r.vars.length<=1000000
 mem:r.mem.length<=1000000
 timers:r.timers.length<=9223372036854775807
def ln(l:List Int):Bool:=l.all aL
def bG(c:aq)(r:Rc):Bool:=tI c r.Z4&&bc c r.mem&&(r.vars.length==c.vars.length)&&dP r.timers&&(r.over==kK c r.Z4)&&ln r.vars
def tN(a:Addr)(c:aq)(r:Rc):AV:=if bG c r=true then h9 else dt (-1) (bx a)
def IV{c:aq}{act:List Int}(h:tI c act=true): ∀x∈act,0<=x/\x<c.Z9.length:=fun x g=>by
 obtain⟨i,e⟩:=O6.1 g;have d:=(zf.1 h).1 i (Mr.1 e).1;rw[tG e,Mu]at d;have a:=d.2;unfold vk at_ at a;by_cases b:0<=x
 ·rw[Mw b]at a;cases f:c.Z9[x.toNat]? with
  |none=>rw[f]at a;cases a
  |some s=>have:=(Mr.1 f).1;omega
 rw[Mt b]at a;cases a
end
section
def F1{l:List Int}{i:Nat}{x:Int}(a:(l.take i).all aL=true)(b:l[i]? =some x)(h:aL x=true):(l.take (i+1)).all aL=true:=by
 rw[N1,b,QT,a];simp[h]
def F2{l:List Int}{i:Nat}{x:Int}(a:l[i]? =some x)(h:aL x=false):ln l=false:=by
 unfold ln;rw[PR];exact⟨x,Mv a,by rw[h];exact Nc⟩
def Ae(env:b8)(d q:Addr)(y:fU env d q)(c:aq)(h:ch c)(A:g7 c)(r:Rc)(o:If r)(B: ∀t∈r.timers,t.1.length<=9223372036854775807)(b:b7 prog env 130 [aG c,fk r.mem] (KT d c r.mem)):b7 prog env 71 [aG c, .agg (iu r)] (tN d c r):=by
 have f1:=ay env c A;have f2:=ck env d q y c h A r.Z4 o.Z4;have f4:=JF env r.timers o.timers B;have f6:=HP env d q y [109,105,99,114,111,46,67,104,101,99,107];have a:bG c r=false->tN d c r=dt (-1) (bx d):=fun h=>by unfold tN;rw[h];rfl
 unfold vx at f2;unfold KT at b;unfold aA at f1;unfold aG at f1 f2 b |-;cases e:tI c r.Z4
 ·rw[a (by unfold bG;rw[e];rfl)];rw[e,Mt Nc]at f2;refine qf func71 call71 ntmps71 results71 ?_;have F:=iu.eq_1;exact An f1 f2 f6
 rw[e,Mw rfl]at f2;cases g:bc c r.mem
 ·rw[a (by unfold bG;rw[g,OB];rfl)];rw[g,Mt Nc]at b;refine qf func71 call71 ntmps71 results71 ?_;have F:=iu.eq_1;exact TB f1 f2 b f6
 rw[g,Mw rfl]at b;by_cases s:r.vars.length=c.vars.length
 case neg=>
  rw[a (by unfold bG;rw[show (r.vars.length==c.vars.length)=false by simpa using s,OB];rfl)];have f:((r.vars.length:Int) != (c.vars.length:Int))=true:=by simp;omega
  refine qf func71 call71 ntmps71 results71 ?_;have F:=ai UJ f;exact TB f1 f2 b f6
 have f:((r.vars.length:Int) != (c.vars.length:Int))=false:=by simp[s]
 cases j:dP r.timers
 ·rw[a (by unfold bG;rw[j,OB];rfl)];rw[j]at f4;refine qf func71 call71 ntmps71 results71 ?_;have F:=ai UJ f;exact Uh f1 f2 b f4 f6
 rw[j]at f4;have f5:=Iy env c r.Z4 o.Z4 (IV e);unfold aA at f5;cases k:(r.over==kK c r.Z4)
 ·rw[a (by unfold bG;rw[k,OB];rfl)];refine qf func71 call71 ntmps71 results71 ?_;have F:=gb UJ f k;exact TC f1 f2 b f4 f5 f6
 have z:bG c r=ln r.vars:=by unfold bG;rw[e,g,j,k,show (r.vars.length==c.vars.length)=true by simpa using s];rfl
 have C:=o.vars;refine qf func71 call71 ntmps71 results71 ?_;have F:=gb UJ f k;repeat refine Uu f1 f2 b f4 f5 f6 ?_
 try clear f1 f2 b f4 f5 e g f j k
 refine lq r.vars.length (by omega) (fun i _=>[(52,cf r.vars),(53,I r.vars.length),(54,I i)]) (fun _ _=>[]) (fun i _ _=>(r.vars.take i).all aL=true) rfl ?_ ?_
 ·rintro i D u l n w v;obtain⟨x,p⟩:=gE l;have f7:=dH env x;cases m:aL x
  ·rw[m]at f7;rw[a (by rw[z];exact F2 p m)];have F:=hU UE n w p;exact mw f6 f7
  rw[m]at f7;have F:=hU UE n w p;repeat refine wc f6 f7 ?_
  exact qn (i+1) ⟨l,F1 v p m⟩
 rintro D u n v;rw[show tN d c r=h9 from by unfold tN;rw[Mw (by rw[z];unfold ln;rwa [Nq (by omega)]at v)]];have F:=n;exact ek
def tB(env:b8)(a b:Addr)(d:fU env a b)(c:aq)(h:ch c)(f:g7 c)(r:Rc)(e:If r)(i: ∀t∈r.timers,t.1.length<=9223372036854775807)(g: ∀m∈r.mem,cU m.2.length 8):b7 prog env 71 [aG c, .agg (iu r)] (tN a c r):=
 Ae env a b d c h f r e i (qP env a b d c h f r.mem e.mem g)
def zu(env:b8)(s:List UInt8):b7 prog env 29 [Sg s,h9] h9:=by
 refine qf func29 call29 ntmps29 results29 ?_;repeat refine m9 ?_
 exact oj
def yM(env:b8)(l:List Int)(j:l.length<=1000000):b7 prog env 80 [.agg [cf l,I 0,cy]] (B (ln l)):=by
 refine qf func80 call80 ntmps80 results80 ?_;repeat refine m9 ?_
 refine RK l.length (by omega) (fun i g=>[(1, .loc 1 (g 1) 0 0),(3,I i)]) (fun _ _=>[(1,⟨3,[[cf l,I 0,cy]],165,false⟩)]) (fun i _ _=>(l.take i).all aL=true) rfl ?_ ?_
 ·rintro i g e a c h f;obtain⟨x,d⟩:=gE a;have f7:=db env x;cases b:aL x
  ·rw[b]at f7;rw[F2 d b];have F:=hU UE c h d;exact hH f7
  rw[b]at f7;have F:=hU UE c h d;repeat refine fc f7 ?_
  exact qn (i+1) ⟨a,F1 f d b⟩
 rintro g e c f;have f7:=db env 0;rw[show ln l=true from by unfold ln;rwa [Nq (by omega)]at f];rw[show aL 0=true from rfl]at f7;have F:=c;exact hH f7
def AY(env:b8)(c:aq)(h:ch c)(act:List Int)(a:act.length<=1000000):b7 prog env 77 [.agg (aA c), .seq 1 (act.map aa)] (B (tI c act)):=by
 have f0:=vg env c h act a;unfold tI;refine qf func77 call77 ntmps77 results77 ?_;have F:=aA.eq_1;exact hH f0
def v8(env:b8)(c:aq)(h:ch c)(r:Rc)(z:If r)(d:b7 prog env 78 [.agg (aA c),fk r.mem] (B (bc c r.mem))):b7 prog env 45 [.agg (aA c), .agg (iu r)] (B (bG c r)):=by
 have f2:=AY env c h r.Z4 z.Z4;have O:=z.timers;unfold aA at f2 d;cases g:tI c r.Z4
 ·rw[show bG c r=false from by unfold bG;rw[g];rfl];rw[g]at f2;refine qf func45 call45 ntmps45 results45 ?_;have F:=ai Uv UJ;exact hH f2
 rw[g]at f2;cases q:bc c r.mem
 ·rw[show bG c r=false from by unfold bG;rw[q,OB];rfl];rw[q]at d;refine qf func45 call45 ntmps45 results45 ?_;have F:=ai Uv UJ;exact mw f2 d
 rw[q]at d;by_cases A:r.vars.length=c.vars.length
 case neg=>
  rw[show bG c r=false from by unfold bG;rw[show (r.vars.length==c.vars.length)=false by simpa using A,OB];rfl];have k:((r.vars.length:Int) != (c.vars.length:Int))=true:=by simp;omega
  refine qf func45 call45 ntmps45 results45 ?_;have F:=gb Uv UJ k;exact mw f2 d
 have k:((r.vars.length:Int) != (c.vars.length:Int))=false:=by simp[A]
 by_cases P:8<r.timers.length
 ·have s:(8:Int)< (r.timers.length:Int):=by omega
  rw[show bG c r=false from by unfold bG dP;rw[N7 (show ¬r.timers.length<=8 by omega),OB,OB];rfl];refine qf func45 call45 ntmps45 results45 ?_;have F:=hU Uv UJ k s;exact mw f2 d
 have s: ¬(8:Int)< (r.timers.length:Int):=by omega
 have f5:=Gf env c r.Z4 z.Z4 (IV g);unfold aA at f5;cases t:(r.over==kK c r.Z4)
 ·rw[show bG c r=false from by unfold bG;rw[t,OB];rfl];refine qf func45 call45 ntmps45 results45 ?_;have F:=g9 Uv UJ k s t;exact An f2 d f5
 have L:bG c r=(EV r.timers.length (ki r.timers)&&ln r.vars):=by
  unfold bG dP;rw[g,q,t,show (r.vars.length==c.vars.length)=true by simpa using A,Ni (show r.timers.length<=8 by omega),RU];simp
 rw[L];refine qf func45 call45 ntmps45 results45 ?_;have F:=g9 Uv UJ k s t;repeat refine Sx f2 d f5 ?_
 try clear f2 d f5 g q k s t L
 have F:=iu.eq_1;refine lq r.timers.length (by omega) (fun i E=>[(3, .loc 3 (E 3) 0 0),(5,I i)]) (fun _ _=>[(3,⟨5,[iu r],37,false⟩)]) (fun i _ _=> ∀j,j<i->ki r.timers j=true) (fun j N=>by omega) ?_ ?_
 ·rintro i E C e f l w;obtain⟨x,b⟩:=gE e;have f1:=fO env x.1;have a:ki r.timers i=false->(EV r.timers.length (ki r.timers)&&ln r.vars)=false:=fun h=>by rw[uQ e h];rfl
  cases o:bp x.1
  ·rw[a (by unfold ki;rw[eK b,o];rfl)];rw[o]at f1;have F:=g9 UJ f l b UG;exact hH f1
  rw[o]at f1;by_cases p:x.2<0
  ·rw[a (by unfold ki CY;rw[eK b,N7 (by omega),OB];rfl)];have F:=i' UJ f l b UG p;exact hH f1
  by_cases u:1099511627776<x.2
  ·rw[a (by unfold ki CY;rw[eK b,N7 (by omega),OB];rfl)];have F:=mc UJ f l b UG p u;exact hH f1
  have G:CY x.2=true:=Ni ⟨by omega,by omega⟩;by_cases K:i=0
  ·have v: ¬(0:Int)< (i:Int):=by omega
   have F:=n4 UJ f l b UG p u v;repeat refine fc f1 ?_
   refine⟨i+1,⟨e,uP w ?_⟩,?_,?_,by omega⟩
   ·unfold ki;rw[eK b,o,G,Ni K];rfl
   ·exact qe
   have F:=iu.eq_1;exact qe
  have v:(0:Int)< (i:Int):=by omega
  have H:IntKind.i64.wrap ((i:Int)-1)=((i-1:Nat):Int):=Mi i 1 (by omega) (by omega);have J:((i-1:Nat):Int)< (r.timers.length:Int):=by omega
  obtain⟨y,D⟩: ∃y,r.timers[i-1]? =some y:=⟨r.timers[i-1],Mq (by omega)⟩;have M:ki r.timers i= !(Op.bytesLess x.1 y.1||x.1==y.1):=by unfold ki;rw[eK b,eK D,o,G,N7 K,pu];rfl
  by_cases m:(Op.bytesLess x.1 y.1||x.1==y.1)=true
  ·rw[a (by rw[M,m];rfl)];have F:=ed UJ f l b UG p u v H J D m;exact hH f1
  have m:(Op.bytesLess x.1 y.1||x.1==y.1)=false:=by simpa using m
  have F:=ed UJ f l b UG p u v H J D m;repeat refine fc f1 ?_
  refine⟨i+1,⟨e,uP w (by rw[M,m];rfl)⟩,?_,?_,by omega⟩
  ·exact qe
  have F:=iu.eq_1;exact qe
 rintro E C f w;have f4:=yM env r.vars z.vars;rw[qM (n:=r.timers.length) fun j N=>w j (by omega),Nj];have F:=ai UJ f;exact hH f4
def yL(env:b8)(c:aq)(h:ch c)(r:Rc)(a:If r)(b: ∀m∈r.mem,cU m.2.length 8):b7 prog env 45 [.agg (aA c), .agg (iu r)] (B (bG c r)):=
 v8 env c h r a (yQ env c h r.mem a.mem b)
end
section
def C'(b:Bool):List AV:=[B b]
def dw(w:r5):List AV:=[cf w.vars,I w.data, .seq 1 (w.act.map C')]
def UP:=@dw.eq_1
def lW{n:Int}(h:aL n=true):IntKind.i64.wrap n=n:=by
 rw[cE]at h;exact aW (by omega) (by omega)
def gS{n:Int}(h:S3 n):IntKind.i64.wrap n=n:=by
 unfold S3 at h;exact aW (by omega) (by omega)
def jY(env:b8)(b:Bool):b7 prog env 312 [B b] (I (Q' b)):=by
 cases b
 ·show b7 _ _ _ _ (I 0);refine qf func312 call312 ntmps312 results312 ?_;repeat refine m9 ?_
  exact oj
 show b7 _ _ _ _ (I 1);refine qf func312 call312 ntmps312 results312 ?_;repeat refine m9 ?_
 exact oj
def wN(env:b8)(k a:Int)(d:k=5\/k=6)(c:aL a=true):b7 prog env 304 [I k,I a] (.tuple [I (Si k a),B true]):=by
 have f0:=jY env (a==0);rcases d with rfl|rfl
 ·have b:IntKind.i64.wrap (0-a)=Si 5 a:=lW (Er 5 c);refine qf func304 call304 ntmps304 results304 ?_;have F:=b;exact hH f0
 have b:Q' (a==0)=Si 6 a:=rfl;refine qf func304 call304 ntmps304 results304 ?_;have F:=b;exact hH f0
def Ir(env:b8)(k a b:Int)(e:k=8\/k=9)(g:aL a=true):b7 prog env 313 [I k,I a,I b] (.tuple [I (kb k a b).1,B (kb k a b).2]):=by
 by_cases c:b=0
 ·subst c;have d:kb k a 0=(0,false):=by rcases e with rfl|rfl<;>rfl
  rw[d];refine qf func313 call313 ntmps313 results313 ?_;repeat refine m9 ?_
  exact oj
 have f:(b==0)=false:=by simpa using c
 rcases e with rfl|rfl
 ·have d:kb 8 a b=(a.tdiv b,true):=by simp[kb,c]
  have h:=lW (lY (b:=b) g);rw[d];refine qf func313 call313 ntmps313 results313 ?_;have F:=gb f h c;exact ek
 have d:kb 9 a b=(a.tmod b,true):=by simp[kb,c]
 rw[d];refine qf func313 call313 ntmps313 results313 ?_;have F:=ai f c;exact ek
def Ao(env:b8)(k a b:Int)(c:12<=k/\k<=17):b7 prog env 314 [I k,I a,I b] (B (I' k a b)):=by
 obtain rfl|rfl|rfl|rfl|rfl|rfl:k=12\/k=13\/k=14\/k=15\/k=16\/k=17:=by omega
 all_goals (refine lB func314 rfl call314 (by rw [ntmps314]; simp) ?_
            rw[ntmps314,results314])
 all_goals have F:=I'.eq_1
 all_goals (repeat refine st ?_)
 all_goals ((refine aM ?_;show (aj _ _ _).run _=some _;simp only[go_sem,F]))
def uJ(env:b8)(k a b:Int)(p:7<=k/\k<=19)(n:aL a=true)(o:aL b=true):b7 prog env 305 [I k,I a,I b] (.tuple [I (kb k a b).1,B (kb k a b).2]):=by
 have c:=(uK k n o).1;by_cases l:k=7
 ·subst l;have f0:=dH env (a*b);have e:IntKind.i64.wrap (a*b)=a*b:=gS c;show b7 _ _ _ _ (.tuple [I (a*b),B (aL (a*b))]);refine qf func305 call305 ntmps305 results305 ?_;have F:=e;exact hH f0
 by_cases m:k=8\/k=9
 ·have f0:=Ir env k a b m n;generalize kb k a b=R at*;rcases m with rfl|rfl
  ·refine qf func305 call305 ntmps305 results305 ?_;repeat refine jJ f0 ?_
   exact oj
  refine qf func305 call305 ntmps305 results305 ?_;repeat refine jJ f0 ?_
  exact oj
 by_cases f:k=10
 ·subst f;have f0:=dH env (a+b);have e:IntKind.i64.wrap (a+b)=a+b:=gS c;show b7 _ _ _ _ (.tuple [I (a+b),B (aL (a+b))]);refine qf func305 call305 ntmps305 results305 ?_;have F:=e;exact hH f0
 by_cases g:k=11
 ·subst g;have f0:=dH env (a-b);have e:IntKind.i64.wrap (a-b)=a-b:=gS c;show b7 _ _ _ _ (.tuple [I (a-b),B (aL (a-b))]);refine qf func305 call305 ntmps305 results305 ?_;have F:=e;exact hH f0
 have j: ∀t:Bool,b7 prog env 72 [I (Q' t)] (B true):=fun t=>by
  have:=dH env (Q' t);rwa [gX]at this
 by_cases h:k=18
 ·subst h;show b7 _ _ _ _ (.tuple [I (Q' (a != 0&&b != 0)),B true]);have f0:=jY env (a != 0&&b != 0);have f1:=j (a != 0&&b != 0);cases d:(a != 0)
  ·rw[d]at f0 f1;refine qf func305 call305 ntmps305 results305 ?_;have F:=d;exact mw f0 f1
  rw[d]at f0 f1;refine qf func305 call305 ntmps305 results305 ?_;have F:=d;exact mw f0 f1
 by_cases i:k=19
 ·subst i;show b7 _ _ _ _ (.tuple [I (Q' (a != 0||b != 0)),B true]);have f0:=jY env (a != 0||b != 0);have f1:=j (a != 0||b != 0);cases d:(a != 0)
  ·rw[d]at f0 f1;refine qf func305 call305 ntmps305 results305 ?_;have F:=d;exact mw f0 f1
  rw[d]at f0 f1;refine qf func305 call305 ntmps305 results305 ?_;have F:=d;exact mw f0 f1
 have e:kb k a b=(Q' (I' k a b),true):=by
  unfold kb;rw[Mt l,Mt (by omega),Mt (by omega),Mt f,Mt g,Mt h,Mt i]
 rw[e];have f0:=Ao env k a b (by omega);have f1:=jY env (I' k a b);have f2:=j (I' k a b);generalize I' k a b=R at*;obtain rfl|rfl|rfl|rfl|rfl|rfl:k=12\/k=13\/k=14\/k=15\/k=16\/k=17:=by omega
 all_goals (refine lB func305 rfl call305 (by rw [ntmps305]; simp) ?_
            rw[ntmps305,results305])
 all_goals (repeat refine Cd f0 f1 f2 ?_)
 all_goals ((refine aM ?_;show (aj _ _ _).run _=some _;simp only[go_sem]))
def Bl(env:b8)(w:r5)(o:l5)(c:1<=o.kind/\o.kind<=4)(h:nG o w.vars.length w.act.length=true):b7 prog env 303 [.agg (bX o), .agg (dw w)] (I (md w o)):=by
 obtain⟨k,n⟩:=o;simp only at c;unfold md;unfold nG at h;simp only at h |-;obtain rfl|rfl|rfl|rfl:k=1\/k=2\/k=3\/k=4:=by omega
 ·show b7 _ _ _ _ (I n);refine qf func303 call303 ntmps303 results303 ?_;have F:=ai UD UP;exact ek
 ·have h:0<=n/\n<w.vars.length:=by simpa using h
  obtain⟨m,rfl⟩:=fg h.1;have a:(m:Int)< (w.vars.length:Int):=h.2;have b:w.vars[m]? =some (w.vars.getD m 0):=by rw[NW,Mq (by omega)];rfl
  show b7 _ _ _ _ (I (w.vars.getD ((m:Int).toNat) 0));rw[OS];refine qf func303 call303 ntmps303 results303 ?_;have F:=g9 UD UP UE a b;exact ek
 ·show b7 _ _ _ _ (I w.data);refine qf func303 call303 ntmps303 results303 ?_;have F:=ai UD UP;exact ek
 have h:0<=n/\n<w.act.length:=by simpa using h
 obtain⟨m,rfl⟩:=fg h.1;have a:(m:Int)< (w.act.length:Int):=h.2;have b:w.act[m]? =some (w.act.getD m false):=by rw[NW,Mq (by omega)];rfl
 show b7 _ _ _ _ (I (Q' (w.act.getD ((m:Int).toNat) false)));rw[OS];have f0:=jY env (w.act.getD m false);generalize w.act.getD m false=t at*;refine qf func303 call303 ntmps303 results303 ?_;have F:=g9 UD UP C'.eq_1 a b;exact hH f0
end
section
def tE{c:aq}{act:List Int}(h:tI c act=true): ∃l:List Nat,act=zL l/\ ∀k∈l,k<c.Z9.length:=by
 have i:=(zf.1 h).1
 have f: ∀x∈act,0<=x/\x< (c.Z9.length:Int):=fun x a=>by
  obtain⟨n,d,e⟩:=OX a;have:=i n d;rw[tG (Mr.2 ⟨d,e⟩),Mu]at this;have b:=this.2;cases g:fb c x with
  |false=>rw[ox g]at b;cases b
  |true=>exact aI.1 g
 refine⟨act.map Int.toNat,?_,fun k j=> ?_⟩
 ·unfold zL;rw[P5];refine((O9 fun x a=> ?_).trans (SG act)).symm;have:=f x a;show ((x.toNat:Nat):Int)=x;omega
 obtain⟨x,a,rfl⟩:=NE.1 j;have:=f x a;omega
def I1(c:aq)(l:List Nat)(k:Nat):Bool:=b6 (zL l) (av c k true)==0
def ur(c:aq)(l:List Nat)(j:Nat):List Nat:=(l.take j).filter (I1 c l)
def y6(c:aq)(l:List Nat):List Nat:=bt c (zL (ur c l l.length))
def wy{c:aq}{l:List Nat}{j k:Nat}(h:l[j]? =some k):ur c l (j+1)=if I1 c l k then ur c l j++[k] else ur c l j:=by
 unfold ur;rw[N1,h,N5];cases a:I1 c l k<;>simp[a]
def oo(c:aq)(l:List Nat)(j:Nat):(ur c l j).length<=l.length:=by
 unfold ur;exact NK (NS ..) (by rw[NJ];omega)
def Af(env:b8)(c:aq)(h:ch c)(l:List Nat)(A:l.length<=1000)(v: ∀k∈l,k<c.Z9.length):b7 prog env 188 [aG c, .seq 1 (l.map aB)] (.own 3 1 ((y6 c l).map aB)):=by
 have r:=h.Z6;have f0:=j7 env c (by omega) (zL l) (by rw[am];omega);rw[bd]at f0;have f1:=fun k:Nat=>bf env c h k;have f2:=fun k:Nat=>ue env c.Z9.length (zL l) (av c k true) (by omega) (by have:=bE h.toRight k true;omega) (fun j u=>by have:=bJ h.toRight (aY u).1;omega);have f3:=bQ env c;have f4:=gB env c h.toRight (zL (ur c l l.length)) (by rw[am];have:=oo c l l.length;omega);rw[bd]at f4;show b7 _ _ _ _ (.own _ 1 ((bt c (zL (ur c l l.length))).map aB));generalize bt c (zL (ur c l l.length))=R at*;unfold aQ at f3 f4;unfold aG at f0 f1 f3 |-;generalize o:kE c.Z9.length (zL l)=z at*;try clear o
 refine qf func188 call188 ntmps188 results188 ?_;repeat refine m9 ?_
 refine ao 5 5 3 1 ?_;refine RK l.length (by omega) (fun j x=>[(0, .ref 9 [ct c] 0 0),(1, .seq 1 (l.map aB)),(5, .row 5 (x 5)),(8, .seq 1 (l.map aB)),(9,I l.length),(10,I j)]) (fun j _=>[(5,⟨1,(ur c l j).map aB,3,true⟩)]) (fun j _ a=>a 5=false) rfl ?_ ?_
 ·rintro j y a b m s d;obtain⟨k,i⟩:=gE b;have p:=v k (Mv i);have f1:=f1 k;rw[Mw (.inr (aV.2 p))]at f1;have f2:=f2 k;have w:=oo c l j;have t:cU ((ur c l j).length+1) 8:=aC (by omega) (by omega);have g:=wy (c:=c) i;have e:I1 c l k=(b6 (zL l) (av c k true)==0):=rfl;cases f:I1 c l k with
  | true=>
    rw[f,Mw rfl]at g;rw[f]at e
    have n:(((b6 (zL l) (av c k true):Nat):Int)==0)=true:=by
     have:=Nz.1 e.symm;simp;omega
    have F:=mc Ux i m s n t d;repeat refine Sx f0 f1 f2 ?_
    refine⟨j+1,⟨b,by simp only[go_sem,d]⟩,?_,?_,by omega⟩
    ·exact qe
    have F:=gb Ux g @NA.{0,0};exact qe
  | false=>
    rw[f,Mt Nc]at g;rw[f]at e
    have n:(((b6 (zL l) (av c k true):Nat):Int)==0)=false:=by
     have: ¬b6 (zL l) (av c k true)=0:=fun q=>by rw[q]at e;cases e
     simp;omega
    have F:=i' Ux i m s n d;repeat refine Sx f0 f1 f2 ?_
    refine⟨j+1,⟨b,by simp only[go_sem,d]⟩,?_,?_,by omega⟩
    ·exact qe
    have F:=ai Ux g;exact qe
 rintro y a m d;have F:=ai m d;exact mw f3 f4
def yO(env:b8)(c:aq)(h:ch c)(l:List Nat)(w:l.length<=1000)(t: ∀k∈l,k<c.Z9.length):b7 prog env 113 [.agg (aA c), .seq 1 (l.map aB)] (.own 3 1 ((y6 c l).map aB)):=by
 have o:=h.Z6;have _u:=t;have f1:=fun k:Nat=>bh env c k true (by omega);have f2:=fun k:Nat=>gF env (zL l) (av c k true) (by rw[am];omega) (by have:=bE h.toRight k true;omega);rw[bd]at f2;have f4:=lc env c h.toRight (ur c l l.length) (by have:=oo c l l.length;omega);show b7 _ _ _ _ (.own _ 1 ((bt c (zL (ur c l l.length))).map aB));generalize bt c (zL (ur c l l.length))=R at*;refine qf func113 call113 ntmps113 results113 ?_;have F:=aA.eq_1;repeat refine st ?_
 have F:=aA.eq_1;refine lq l.length (by omega) (fun j r=>[(1, .seq 1 (l.map aB)),(2, .loc 2 (r 2) 0 0),(5, .row 7 (r 7)),(6,I j)]) (fun j _=>[(2,⟨5,[aA c],26,false⟩),(7,⟨1,(ur c l j).map aB,3,true⟩)]) (fun j _ a=>a 7=false) rfl ?_ ?_
 ·rintro j v a b i p d;obtain⟨k,n⟩:=gE b;have f1:=f1 k;have f2:=f2 k;have u:=oo c l j;have s:cU ((ur c l j).length+1) 8:=aC (by omega) (by omega);have g:=wy (c:=c) n;have e:I1 c l k=(b6 (zL l) (av c k true)==0):=rfl;cases f:I1 c l k with
  | true=>
    rw[f,Mw rfl]at g;rw[f]at e
    have m:(((b6 (zL l) (av c k true):Nat):Int)==0)=true:=by
     have:=Nz.1 e.symm;simp;omega
    have F:=n4 Uv Ux n i p m s d;repeat refine wc f1 f2 ?_
    refine⟨j+1,⟨b,by simp only[go_sem,d]⟩,?_,?_,by omega⟩
    ·exact qe
    have F:=hU Uv Ux g @NA.{0,0};exact qe
  | false=>
    rw[f,Mt Nc]at g;rw[f]at e
    have m:(((b6 (zL l) (av c k true):Nat):Int)==0)=false:=by
     have: ¬b6 (zL l) (av c k true)=0:=fun q=>by rw[q]at e;cases e
     simp;omega
    have F:=mc Uv Ux n i p m d;repeat refine wc f1 f2 ?_
    refine⟨j+1,⟨b,by simp only[go_sem,d]⟩,?_,?_,by omega⟩
    ·exact qe
    have F:=gb Uv Ux g;exact qe
 rintro v a i d;have F:=gb Uv i d;exact hH f4
def Gz(env:b8)(b d:Addr)(f:fU env b d)(c:aq)(h:ch c)(a:g7 c)(l:List Nat)(i:l.length<=1000)(g: ∀k∈l,k<c.Z9.length)(e:tI c (zL l)=true):b7 prog env 134 [aG c, .seq 1 (l.map aB)] (.tuple [.seq 1 ((y6 c l).map aB),h9]):=by
 have f0:=ck env b d f c h a (zL l) (by rw[am];omega);unfold vx at f0;rw[Mw e,bd]at f0;have f1:=Af env c h l i g;unfold aG at f0 f1 |-;generalize y6 c l=R at*;refine qf func134 call134 ntmps134 results134 ?_;repeat refine vP f0 f1 ?_
 exact oj
end
section
def fh(w:r5)(g:List l5):Option Bool:=if g=[] then some true else(k8 w g).map fun n=>n != 0
def jU(c:aq)(n:Nat):List l5:=match c.trans[n]? with
 |some t=>t.guard
 |none=>[]
def dm(c:aq)(n:Nat):tR:=c.trans.getD n ⟨0,[],[],[],0⟩
def dC{c:aq}{n:Nat}{t:tR}(h:c.trans[n]? =some t):dm c n=t:=by
 unfold dm;rw[NW,h];rfl
inductive Fd where
 |no
 |one (n:Nat)
 |bad (n:Nat)
def cQ(c:aq)(w:r5):List Nat->Fd
 |[]=> .no
 | n::l=>match fh w (jU c n) with
   |none=> .bad n
   |some true=> .one n
   |some false=>cQ c w l
def dU(c:aq)(w:r5)(ev:List UInt8):List Int->Fd
 |[]=> .no
 | k::l=>match cQ c w (ii c k ev c.trans.length) with
   | .no=>dU c w ev l
   |r=>r
def dA(c:aq)(w:r5)(ev:List UInt8):List Nat->List Nat->Except Nat (List Nat)
 |[],o=> .ok o
 | i::l,o=>match dU c w ev ((i:Int)::j0 c i) with
   | .bad n=> .error n
   | .no=>dA c w ev l o
   | .one n=>dA c w ev l (if o.contains n then o else o++[n])
def bg(c:aq)(act:List Int)(a b:Nat):Bool:=(fj c act (dm c a)).any fun i=>(fj c act (dm c b)).contains i
def lk(c:aq)(act:List Int)(n k:Nat):Bool:= !bg c act k n||a7 c (dm c k).src (dm c n).src
def la(c:aq)(act:List Int)(l:List Nat)(n:Nat):List Nat:=if l.all (lk c act n) then(l.filter fun k=> !bg c act k n)++[n] else l
def E6(c:aq)(act:List Int)(l:List Nat):List Nat:=l.foldl (la c act) []
def rU(c:aq)(act:List Int)(w:r5)(ev:List UInt8)(a:List Nat):Except Nat (List Nat):=match dA c w ev a []with
 | .ok l=> .ok (E6 c act l)
 | .error n=> .error n
structure Fit(c:aq)(act:List Int)(l:List Nat):Prop where
 real: ∀n∈l,∃t,c.trans[n]? =some t/\t.src∈act
 two:l.Pairwise fun k n=>k≠n/\bg c act k n=false
def Fit.nil(c:aq)(act:List Int):Fit c act []:=⟨fun _ h=>by simp at h, .nil⟩
def Fit.take{c:aq}{act:List Int}{l:List Nat}(h:Fit c act l){n:Nat}(k: ∃t,c.trans[n]? =some t/\t.src∈act)(j:n∉l):Fit c act (la c act l n):=by
 unfold la;split
 ·refine⟨fun m hm=> ?_,?_⟩
  ·rcases NY.1 hm with hm|hm
   ·exact h.real m (ND.1 hm).1
   rw[NO.1 hm];exact k
  refine Pk.2 ⟨h.two.sublist OR,QJ ..,fun a g b i=> ?_⟩;rw[NO.1 i];obtain⟨d,f⟩:=ND.1 g;exact⟨fun e=>j (e ▸ d),by simpa using f⟩
 exact h
def uY{c:aq}{act:List Int}{l:List Nat}{n m:Nat}(h:m∈la c act l n):m∈l\/m=n:=by
 unfold la at h;split at h
 ·rcases NY.1 h with h|h
  ·exact .inl (ND.1 h).1
  exact .inr (NO.1 h)
 exact .inl h
def CB{c:aq}{act:List Int} : ∀(l:List Nat)(o:List Nat),Fit c act o->(∀n∈l,∃t,c.trans[n]? =some t/\t.src∈act)->l.Nodup->(∀n∈l,n∉o)->Fit c act (l.foldl (la c act) o)
 |[],o,h,_,_,_=>h
 | n::l,o,h,b,g,d=>by
   obtain⟨i,j⟩:=PM.1 g;refine CB l _ (h.take (b n (by simp)) (d n (by simp))) (fun m a=>b m (by simp[a])) j fun m a f=> ?_;rcases uY f with e|e
   ·exact d m (by simp[a]) e
   exact i (e ▸ a)
def CF{c:aq}{w:r5}{n:Nat} : ∀ {l:List Nat},cQ c w l= .one n->n∈l
 |[],h=>by simp[cQ]at h
 | k::l,h=>by
   unfold cQ at h;split at h
   ·cases h
   ·cases h;simp
   exact O3 _ (CF h)
def zD{c:aq}{w:r5}{ev:List UInt8}{n:Nat} : ∀ {l:List Int},dU c w ev l= .one n-> ∃k∈l,∃t,c.trans[n]? =some t/\t.src=k/\t.Z8=ev
 |[],h=>by simp[dU]at h
 | k::l,h=>by
   unfold dU at h;split at h
   ·obtain⟨j,d,q⟩:=zD h;exact⟨j,O3 _ d,q⟩
   ·rename_i r f;have:=CF h;unfold ii at this;obtain⟨e,a⟩:=ND.1 this;unfold jf at a;cases b:c.trans[n]? with
    |none=>rw[b]at a;cases a
    | some t=>
      rw[b]at a;simp only[NF]at a;exact⟨k,by simp,t,rfl,a.1,a.2⟩
def uy{c:aq}(h:ch c){act:List Int}(q:Lg c act){w:r5}{ev:List UInt8} : ∀(l o f:List Nat),dA c w ev l o= .ok f->(∀i∈l,(i:Int)∈act)->(∀n∈o,∃t,c.trans[n]? =some t/\t.src∈act/\t.Z8=ev)->o.Nodup->(∀n∈f,∃t,c.trans[n]? =some t/\t.src∈act/\t.Z8=ev)/\f.Nodup
 | [],o,f,e,_,g,d=>by
   simp only[dA,Except.ok.injEq]at e;subst e;exact⟨g,d⟩
 | i::l,o,f,e,u,g,d=>by
   unfold dA at e;split at e
   ·cases e
   ·exact uy h q l o f e (fun j r=>u j (by simp[r])) g d
   rename_i n C;refine uy h q l _ f e (fun j r=>u j (by simp[r])) ?_ ?_
   ·obtain⟨k,hk,t,x,D,p⟩:=zD C;have v:=u i (by simp);have y:=(h.src x).1
    have s:t.src∈act:=by
     rw[D]at y |-;rcases NV.1 hk with e|hk
     ·rw[e];exact v
     exact q.up h.toRight ((i:Int).toNat+1) i k (by omega) v hk (aI.1 y).1
    split
    ·exact g
    intro m hm;rcases NY.1 hm with hm|hm
    ·exact g m hm
    rw[NO.1 hm];exact⟨t,x,s,p⟩
   split
   ·exact d
   rename_i B;refine Ov.2 ⟨d,by simp,fun a z b A e=>B ?_⟩;rw[NO.1 A]at e;rw[Mx, <-e];exact z
def LF{c:aq}(h:ch c){l:List Nat}(d: ∀k∈l,k<c.Z9.length){i:Nat}(hi:i∈y6 c l):i∈l:=by
 have b: ∀j,j∈ur c l l.length->j∈l:=fun j a=>Ou (ND.1 a).1
 have g:(zL (ur c l l.length)).all (fb c)=true:=Mz.2 fun x f=>by
  obtain⟨j,a,rfl⟩:=NE.1 f;exact aV.2 (d j (b j a))
 unfold y6 at hi;rw[BK h.toRight g]at hi;obtain⟨j,a,e⟩:=NE.1 hi;have:j=i:=by omega
 exact this ▸ b j a
def J7{c:aq}(h:ch c){act:List Int}(j:Lg c act){w:r5}{ev:List UInt8}{a f:List Nat}(hi: ∀i∈a,(i:Int)∈act)(e:rU c act w ev a= .ok f):Fit c act f:=by
 unfold rU at e;split at e
 ·rename_i l m;cases e;obtain⟨d,g⟩:=uy h j a [] l m hi (fun n b=>by simp at b) .nil;exact CB l [] (Fit.nil c act) (fun n b=>by obtain⟨t,o,p,_⟩:=d n b;exact⟨t,o,p⟩) g (fun n _ k=>by simp at k)
 cases e
end
end Go.Proofs.YtfhkmjbjafeckaaGreatDoor
