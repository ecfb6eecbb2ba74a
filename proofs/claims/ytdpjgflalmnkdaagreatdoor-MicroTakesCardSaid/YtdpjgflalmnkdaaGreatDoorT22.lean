/- Growing, as the document does it. -/
import Derived.Test.YtdpjgflalmnkdaaGreatDoorT21
import Derived.Test.YtdpjgflalmnkdaaGreatDoorT7
set_option maxRecDepth 100000
set_option maxHeartbeats 16000000
set_option linter.unusedSimpArgs false
namespace Go.Proofs.YtdpjgflalmnkdaaGreatDoor
open Go.Proofs.Tryz
open Go.RowKit
section
def gH (c:ChD) (x:Int):Bool:=match c.states[x.toNat]? with
 |some s=>decide (s.parent<0)&&(s.kind==3)
 |none=>false
def jh (c:ChD) (act:List Int):Bool:=act.any (gH c)
theorem xn {c:ChD} {act:List Int} {i:Nat} {x:Int} (ha:(act.take i).any (gH c)=false) (hx:act[i]? =some x) (h:gH c x=false):(act.take (i+1)).any (gH c)=false:=by
 rw[Ky,hx,List.any_append,ha];simp[h]
theorem Dn {c:ChD} {act:List Int} {i:Nat} {x:Int} (hx:act[i]? =some x) (h:gH c x=true):jh c act=true:=Lj.2 ⟨x,K4 hx,h⟩
theorem G7 (env:Env) (c:ChD) (act:List Int) (hl:act.length<=1000000) (hr: ∀x∈act,0<=x/\x<c.states.length):Con prog env 118 [.agg (aA c),ints34 act] (B (jh c act)):=by
 refine qf func118 call118 ntmps118 results118 ?_;have F:=aA.eq_1;repeat refine st ?_
 have F:=aA.eq_1;refine lq act.length (by omega) (fun i vs=>[(2, .loc 2 (vs 2) 0 0),(7,ints34 act),(8,I act.length),(9,I i)]) (fun _ _=>[(2,⟨5,[aA c],26,false⟩)]) (fun i _ _=>(act.take i).any (gH c)=false) rfl ?_ ?_
 ·rintro i vs esc hlt g1 g2 ha;obtain⟨x,hx⟩:=gE hlt;obtain⟨h0,h1⟩:=hr x (K4 hx);obtain⟨k,rfl⟩:=OK h0;have hk:k<c.states.length:=by omega
  obtain⟨s,hs⟩:=gE hk;have g3:=nlt hk;have ht:gH c k=(decide (s.parent<0)&&(s.kind==3)):=by unfold gH;rw[Ln,hs]
  by_cases b1:s.parent<0
  ·by_cases b2:s.kind=3
   ·rw[Dn hx (by rw[ht,LK b1,b2];rfl)];have F:=ai10 aA.eq_1 aK.eq_1 intAV.eq_1 g1 g2 g3 hx hs b1 b2;repeat refine st ?_
    exact aR
   ·have b3:(s.kind==3)=false:=by simpa using b2
    have F:=ai10 aA.eq_1 aK.eq_1 intAV.eq_1 g1 g2 g3 hx hs b1 b3;repeat refine st ?_
    refine⟨i+1,⟨hlt,xn ha hx (by rw[ht,b3,L8])⟩,?_,?_,by omega⟩
    ·exact qe
    ·have F:=aA.eq_1;exact qe
  ·have F:=ai9 aA.eq_1 aK.eq_1 intAV.eq_1 g1 g2 g3 hx hs b1;repeat refine st ?_
   refine⟨i+1,⟨hlt,xn ha hx (by rw[ht,LD b1,LJ])⟩,?_,?_,by omega⟩
   ·exact qe
   ·have F:=aA.eq_1;exact qe
 rintro vs esc g1 ha;rw[show jh c act=false from by rwa [LU (by omega)]at ha];have F:=g1;repeat refine st ?_
 exact aR
theorem E0 (env:Env) (c:ChD) (act:List Int) (hl:act.length<=1000000) (hr: ∀x∈act,0<=x/\x<c.states.length):Con prog env 45 [.agg (aA c),ints34 act] (B (jh c act)):=by
 refine qf func45 call45 ntmps45 results45 ?_;have F:=aA.eq_1;repeat refine st ?_
 have F:=aA.eq_1;refine lq act.length (by omega) (fun i vs=>[(1,ints34 act),(2, .loc 2 (vs 2) 0 0),(5,I i)]) (fun _ _=>[(2,⟨5,[aA c],26,false⟩)]) (fun i _ _=>(act.take i).any (gH c)=false) rfl ?_ ?_
 ·rintro i vs esc hlt g1 g2 ha;obtain⟨x,hx⟩:=gE hlt;obtain⟨h0,h1⟩:=hr x (K4 hx);obtain⟨k,rfl⟩:=OK h0;have hk:k<c.states.length:=by omega
  obtain⟨s,hs⟩:=gE hk;have g3:=nlt hk;have ht:gH c k=(decide (s.parent<0)&&(s.kind==3)):=by unfold gH;rw[Ln,hs]
  by_cases b1:s.parent<0
  ·by_cases b2:s.kind=3
   ·rw[Dn hx (by rw[ht,LK b1,b2];rfl)];have F:=ai10 aA.eq_1 aK.eq_1 intAV.eq_1 g1 g2 g3 hx hs b1 b2;repeat refine st ?_
    exact aR
   ·have b3:(s.kind==3)=false:=by simpa using b2
    have F:=ai10 aA.eq_1 aK.eq_1 intAV.eq_1 g1 g2 g3 hx hs b1 b3;repeat refine st ?_
    refine⟨i+1,⟨hlt,xn ha hx (by rw[ht,b3,L8])⟩,?_,?_,by omega⟩
    ·exact qe
    ·have F:=aA.eq_1;exact qe
  ·have F:=ai9 aA.eq_1 aK.eq_1 intAV.eq_1 g1 g2 g3 hx hs b1;repeat refine st ?_
   refine⟨i+1,⟨hlt,xn ha hx (by rw[ht,LD b1,LJ])⟩,?_,?_,by omega⟩
   ·exact qe
   ·have F:=aA.eq_1;exact qe
 rintro vs esc g1 ha;rw[show jh c act=false from by rwa [LU (by omega)]at ha];have F:=g1;repeat refine st ?_
 exact aR
theorem Ge (env:Env) (l:List (List UInt8×Int)) (hl:l.length<=9223372036854775807) (hn: ∀t∈l,t.1.length<=9223372036854775807):Con prog env 117 [.seq 2 (l.map tmAV)] (B (dF l)):=by
 refine qf func117 call117 ntmps117 results117 ?_;repeat refine st0 ?_
 refine lq0 l.length (by omega) (fun i _=>[(0, .seq 2 (l.map tmAV)),(5, .seq 2 (l.map tmAV)),(6,I l.length),(7,I i)]) (fun _ _=>[]) (fun i _ _=> ∀j,j<i->kC l j=true) (fun j hj=>by omega) ?_ ?_
 ·rintro i vs esc hlt g1 g2 ha;obtain⟨x,hx⟩:=gE hlt;have f1:=dp env x.1 (hn x (Je hx));have hnot:kC l i=false->dF l=false:=fun h=>by rw[dF,sR hlt h];rfl
  cases a1:bd x.1
  ·rw[hnot (by unfold kC;rw[eA hx,a1];rfl)];rw[a1]at f1;have F:=ai4 g1 g2 hx tmAV.eq_1;repeat refine tz1 f1 ?_
   exact aR
  rw[a1]at f1;by_cases a2:x.2<0
  ·rw[hnot (by unfold kC AJ;rw[eA hx,LD (by omega),L8];rfl)];have F:=ai5 g1 g2 hx tmAV.eq_1 a2;repeat refine tz1 f1 ?_
   exact aR
  by_cases a3:1099511627776<x.2
  ·rw[hnot (by unfold kC AJ;rw[eA hx,LD (by omega),L8];rfl)];have F:=ai6 g1 g2 hx tmAV.eq_1 a2 a3;repeat refine tz1 f1 ?_
   exact aR
  have a4:AJ x.2=true:=LK ⟨by omega,by omega⟩;by_cases h0:i=0
  ·have g3: ¬(0:Int)< (i:Int):=by omega
   have F:=ai7 g1 g2 hx tmAV.eq_1 a2 a3 g3;repeat refine tz1 f1 ?_
   refine⟨i+1,⟨hlt,sQ ha ?_⟩,?_,?_,by omega⟩
   ·unfold kC;rw[eA hx,a1,a4,LK h0];rfl
   ·exact qe
   ·exact qe
  have g3:(0:Int)< (i:Int):=by omega
  have g4:IntKind.i64.wrap ((i:Int)-1)=((i-1:Nat):Int):=KS i 1 (by omega) (by omega);have g5:((i-1:Nat):Int)< (l.length:Int):=by omega
  obtain⟨y,hy⟩: ∃y,l[i-1]? =some y:=⟨l[i-1],KZ (by omega)⟩;have hv:kC l i= !(Op.bytesLess x.1 y.1||x.1==y.1):=by unfold kC;rw[eA hx,eA hy,a1,a4,LD h0,ol];rfl
  by_cases hc:(Op.bytesLess x.1 y.1||x.1==y.1)=true
  ·rw[hnot (by rw[hv,hc];rfl)];have F:=ai11 g1 g2 hx tmAV.eq_1 a2 a3 g3 g4 g5 hy hc;repeat refine tz1 f1 ?_
   exact aR
  have hc:(Op.bytesLess x.1 y.1||x.1==y.1)=false:=by simpa using hc
  have F:=ai11 g1 g2 hx tmAV.eq_1 a2 a3 g3 g4 g5 hy hc;repeat refine tz1 f1 ?_
  exact qn (i+1) ⟨hlt,sQ ha (by rw[hv,hc];rfl)⟩
 rintro vs esc g1 ha
 have e:dF l=decide ((l.length:Int)<=8):=by
  rw[dF,pC (n:=l.length) fun j hj=>ha j (by omega),LN];exact decide_eq_decide.2 (by omega)
 rw[e];have F:=g1;repeat refine st ?_
 exact aR
theorem Em (env:Env) (a1 a8:Addr) (he:ChEnv env a1 a8) (s:List UInt8):Con prog env 32 [Sg s] (errV (-1) (sentV a1)):=by
 have h1:=jz he.e1;have f1:=cn env s a1;refine qf func32 call32 ntmps32 results32 ?_;have F:=h1;repeat refine tz1 f1 ?_
 exact aR
structure LiteI (r:Rc):Prop where
 active:r.active.length<=1000000
 vars:r.vars.length<=1000000
 mem:r.mem.length<=1000000
 timers:r.timers.length<=9223372036854775807
def lC (l:List Int):Bool:=l.all aL
def bW (c:ChD) (r:Rc):Bool:=lgB c r.active&&bU c r.mem&&(r.vars.length==c.vars.length)&&dF r.timers&&(r.over==jh c r.active)&&lC r.vars
def uV (a1:Addr) (c:ChD) (r:Rc):AV:=if bW c r=true then nilE else errV (-1) (sentV a1)
theorem GA {c:ChD} {act:List Int} (h:lgB c act=true): ∀x∈act,0<=x/\x<c.states.length:=fun x hx=>by
 obtain⟨i,hi⟩:=MA.1 hx;have h1:=(xc.1 h).1 i (K0.1 hi).1;rw[rT hi,K3]at h1;have h2:=h1.2;unfold uB at_ at h2;by_cases h0:0<=x
 ·rw[K5 h0]at h2;cases hs:c.states[x.toNat]? with
  |none=>rw[hs]at h2;cases h2
  |some s=>have:=(K0.1 hs).1;omega
 ·rw[K2 h0]at h2;cases h2
end
section
theorem DW {l:List Int} {i:Nat} {x:Int} (ha:(l.take i).all aL=true) (hx:l[i]? =some x) (h:aL x=true):(l.take (i+1)).all aL=true:=by
 rw[Ky,hx,OH,ha];simp[h]
theorem DX {l:List Int} {i:Nat} {x:Int} (hx:l[i]? =some x) (h:aL x=false):lC l=false:=by
 unfold lC;rw[Mf];exact⟨x,K4 hx,by rw[h];exact LO⟩
theorem yc (env:Env) (a1 a8:Addr) (he:ChEnv env a1 a8) (c:ChD) (h:Full c) (hs:Small c) (r:Rc) (hl:LiteI r) (hn: ∀t∈r.timers,t.1.length<=9223372036854775807) (f3:Con prog env 116 [aJ c,memsAV r.mem] (IH a1 c r.mem)):Con prog env 58 [aJ c, .agg (iQ r)] (uV a1 c r):=by
 have f1:=ao env c hs;have f2:=cQ env a1 a8 he c h hs r.active hl.active;have f4:=Ge env r.timers hl.timers hn;have f6:=Em env a1 a8 he [109,105,99,114,111,46,67,104,101,99,107];have bad:bW c r=false->uV a1 c r=errV (-1) (sentV a1):=fun h=>by unfold uV;rw[h];rfl
 unfold uO at f2;unfold IH at f3;unfold aA at f1;unfold aJ at f1 f2 f3 |-;cases b1:lgB c r.active
 ·rw[bad (by unfold bW;rw[b1];rfl)];rw[b1,K2 LO]at f2;refine qf func58 call58 ntmps58 results58 ?_;have F:=iQ.eq_1;repeat refine tz3 f1 f2 f6 ?_
  exact aR
 rw[b1,K5 rfl]at f2;cases b2:bU c r.mem
 ·rw[bad (by unfold bW;rw[b2,L8];rfl)];rw[b2,K2 LO]at f3;refine qf func58 call58 ntmps58 results58 ?_;have F:=iQ.eq_1;repeat refine tz4 f1 f2 f3 f6 ?_
  exact aR
 rw[b2,K5 rfl]at f3;by_cases b3:r.vars.length=c.vars.length
 case neg=>
  rw[bad (by unfold bW;rw[show (r.vars.length==c.vars.length)=false by simpa using b3,L8];rfl)];have b4:((r.vars.length:Int) != (c.vars.length:Int))=true:=by simp;omega
  refine qf func58 call58 ntmps58 results58 ?_;have F:=ai iQ.eq_1 b4;repeat refine tz4 f1 f2 f3 f6 ?_
  exact aR
 have b4:((r.vars.length:Int) != (c.vars.length:Int))=false:=by simp[b3]
 cases b5:dF r.timers
 ·rw[bad (by unfold bW;rw[b5,L8];rfl)];rw[b5]at f4;refine qf func58 call58 ntmps58 results58 ?_;have F:=ai iQ.eq_1 b4;repeat refine tz5 f1 f2 f3 f4 f6 ?_
  exact aR
 rw[b5]at f4;have f5:=G7 env c r.active hl.active (GA b1);unfold aA at f5;cases b6:(r.over==jh c r.active)
 ·rw[bad (by unfold bW;rw[b6,L8];rfl)];refine qf func58 call58 ntmps58 results58 ?_;have F:=ai3 iQ.eq_1 b4 b6;repeat refine tz6 f1 f2 f3 f4 f5 f6 ?_
  exact aR
 have hi:bW c r=lC r.vars:=by unfold bW;rw[b1,b2,b5,b6,show (r.vars.length==c.vars.length)=true by simpa using b3];rfl
 have hvl:=hl.vars;refine qf func58 call58 ntmps58 results58 ?_;have F:=ai3 iQ.eq_1 b4 b6;repeat refine tz6 f1 f2 f3 f4 f5 f6 ?_
 try clear f1 f2 f3 f4 f5 b1 b2 b4 b5 b6
 refine lq r.vars.length (by omega) (fun i _=>[(52,ints34 r.vars),(53,I r.vars.length),(54,I i)]) (fun _ _=>[]) (fun i _ _=>(r.vars.take i).all aL=true) rfl ?_ ?_
 ·rintro i vs esc hlt g1 g2 ha;obtain⟨x,hx⟩:=gE hlt;have f7:=dS env x;cases b8:aL x
  ·rw[b8]at f7;rw[bad (by rw[hi];exact DX hx b8)];have F:=ai4 intAV.eq_1 g1 g2 hx;repeat refine tz2 f6 f7 ?_
   exact aR
  ·rw[b8]at f7;have F:=ai4 intAV.eq_1 g1 g2 hx;repeat refine tz2 f6 f7 ?_
   exact qn (i+1) ⟨hlt,DW ha hx b8⟩
 rintro vs esc g1 ha;rw[show uV a1 c r=nilE from by unfold uV;rw[K5 (by rw[hi];unfold lC;rwa [LU (by omega)]at ha)]];have F:=g1;repeat refine st ?_
 exact aR
theorem B0 (env:Env) (a1 a8:Addr) (he:ChEnv env a1 a8) (c:ChD) (h:Full c) (hs:Small c) (r:Rc) (hl:LiteI r) (hn: ∀t∈r.timers,t.1.length<=9223372036854775807) (hF: ∀m∈r.mem,Fits m.2.length 8):Con prog env 58 [aJ c, .agg (iQ r)] (uV a1 c r):=
 yc env a1 a8 he c h hs r hl hn (pF env a1 a8 he c h hs r.mem hl.mem hF)
theorem xr (env:Env) (s:List UInt8):Con prog env 24 [Sg s,nilE] nilE:=by
 refine qf func24 call24 ntmps24 results24 ?_;repeat refine st0 ?_
 exact aR0
theorem wO (env:Env) (l:List Int) (hl:l.length<=1000000):Con prog env 47 [.agg [ints34 l,I 0,nilS]] (B (lC l)):=by
 refine qf func47 call47 ntmps47 results47 ?_;repeat refine st0 ?_
 refine lq0 l.length (by omega) (fun i vs=>[(1, .loc 1 (vs 1) 0 0),(3,I i)]) (fun _ _=>[(1,⟨3,[[ints34 l,I 0,nilS]],99,false⟩)]) (fun i _ _=>(l.take i).all aL=true) rfl ?_ ?_
 ·rintro i vs esc hlt g1 g2 ha;obtain⟨x,hx⟩:=gE hlt;have f7:=dV env x;cases b8:aL x
  ·rw[b8]at f7;rw[DX hx b8];have F:=ai4 intAV.eq_1 g1 g2 hx;repeat refine tz1 f7 ?_
   exact aR
  ·rw[b8]at f7;have F:=ai4 intAV.eq_1 g1 g2 hx;repeat refine tz1 f7 ?_
   exact qn (i+1) ⟨hlt,DW ha hx b8⟩
 rintro vs esc g1 ha;have f7:=dV env 0;rw[show lC l=true from by unfold lC;rwa [LU (by omega)]at ha];rw[show aL 0=true from rfl]at f7;have F:=g1;repeat refine tz1 f7 ?_
 exact aR
theorem yU (env:Env) (c:ChD) (h:Full c) (act:List Int) (hl:act.length<=1000000):Con prog env 43 [.agg (aA c), .seq 1 (act.map intAV)] (B (lgB c act)):=by
 have f0:=tw env c h act hl;unfold lgB;refine qf func43 call43 ntmps43 results43 ?_;have F:=aA.eq_1;repeat refine tz1 f0 ?_
 exact aR
theorem tt (env:Env) (c:ChD) (h:Full c) (r:Rc) (hl:LiteI r) (f3:Con prog env 44 [.agg (aA c),memsAV r.mem] (B (bU c r.mem))):Con prog env 13 [.agg (aA c), .agg (iQ r)] (B (bW c r)):=by
 have f2:=yU env c h r.active hl.active;have hll:=hl.timers;unfold aA at f2 f3;cases b1:lgB c r.active
 ·rw[show bW c r=false from by unfold bW;rw[b1];rfl];rw[b1]at f2;refine qf func13 call13 ntmps13 results13 ?_;have F:=ai aA.eq_1 iQ.eq_1;repeat refine tz1 f2 ?_
  exact aR
 rw[b1]at f2;cases b2:bU c r.mem
 ·rw[show bW c r=false from by unfold bW;rw[b2,L8];rfl];rw[b2]at f3;refine qf func13 call13 ntmps13 results13 ?_;have F:=ai aA.eq_1 iQ.eq_1;repeat refine tz2 f2 f3 ?_
  exact aR
 rw[b2]at f3;by_cases b3:r.vars.length=c.vars.length
 case neg=>
  rw[show bW c r=false from by unfold bW;rw[show (r.vars.length==c.vars.length)=false by simpa using b3,L8];rfl];have b4:((r.vars.length:Int) != (c.vars.length:Int))=true:=by simp;omega
  refine qf func13 call13 ntmps13 results13 ?_;have F:=ai3 aA.eq_1 iQ.eq_1 b4;repeat refine tz2 f2 f3 ?_
  exact aR
 have b4:((r.vars.length:Int) != (c.vars.length:Int))=false:=by simp[b3]
 by_cases b5:8<r.timers.length
 ·have b6:(8:Int)< (r.timers.length:Int):=by omega
  rw[show bW c r=false from by unfold bW dF;rw[LD (show ¬r.timers.length<=8 by omega),L8,L8];rfl];refine qf func13 call13 ntmps13 results13 ?_;have F:=ai4 aA.eq_1 iQ.eq_1 b4 b6;repeat refine tz2 f2 f3 ?_
  exact aR
 have b6: ¬(8:Int)< (r.timers.length:Int):=by omega
 have f5:=E0 env c r.active hl.active (GA b1);unfold aA at f5;cases b7:(r.over==jh c r.active)
 ·rw[show bW c r=false from by unfold bW;rw[b7,L8];rfl];refine qf func13 call13 ntmps13 results13 ?_;have F:=ai5 aA.eq_1 iQ.eq_1 b4 b6 b7;repeat refine tz3 f2 f3 f5 ?_
  exact aR
 have hi:bW c r=(CL r.timers.length (kC r.timers)&&lC r.vars):=by
  unfold bW dF;rw[b1,b2,b7,show (r.vars.length==c.vars.length)=true by simpa using b3,LK (show r.timers.length<=8 by omega),O4];simp
 rw[hi];refine qf func13 call13 ntmps13 results13 ?_;have F:=ai5 aA.eq_1 iQ.eq_1 b4 b6 b7;repeat refine tz3 f2 f3 f5 ?_
 try clear f2 f3 f5 b1 b2 b4 b6 b7 hi
 have F:=iQ.eq_1;refine lq r.timers.length (by omega) (fun i vs=>[(3, .loc 3 (vs 3) 0 0),(5,I i)]) (fun _ _=>[(3,⟨5,[iQ r],31,false⟩)]) (fun i _ _=> ∀j,j<i->kC r.timers j=true) (fun j hj=>by omega) ?_ ?_
 ·rintro i vs esc hlt g1 g2 ha;obtain⟨x,hx⟩:=gE hlt;have f1:=ei env x.1;have hnot:kC r.timers i=false->(CL r.timers.length (kC r.timers)&&lC r.vars)=false:=fun h=>by rw[sR hlt h];rfl
  cases a1:bd x.1
  ·rw[hnot (by unfold kC;rw[eA hx,a1];rfl)];rw[a1]at f1;have F:=ai5 iQ.eq_1 g1 g2 hx tmAV.eq_1;repeat refine tz1 f1 ?_
   exact aR
  rw[a1]at f1;by_cases a2:x.2<0
  ·rw[hnot (by unfold kC AJ;rw[eA hx,LD (by omega),L8];rfl)];have F:=ai6 iQ.eq_1 g1 g2 hx tmAV.eq_1 a2;repeat refine tz1 f1 ?_
   exact aR
  by_cases a3:1099511627776<x.2
  ·rw[hnot (by unfold kC AJ;rw[eA hx,LD (by omega),L8];rfl)];have F:=ai7 iQ.eq_1 g1 g2 hx tmAV.eq_1 a2 a3;repeat refine tz1 f1 ?_
   exact aR
  have a4:AJ x.2=true:=LK ⟨by omega,by omega⟩;by_cases h0:i=0
  ·have g3: ¬(0:Int)< (i:Int):=by omega
   have F:=ai8 iQ.eq_1 g1 g2 hx tmAV.eq_1 a2 a3 g3;repeat refine tz1 f1 ?_
   refine⟨i+1,⟨hlt,sQ ha ?_⟩,?_,?_,by omega⟩
   ·unfold kC;rw[eA hx,a1,a4,LK h0];rfl
   ·exact qe
   ·have F:=iQ.eq_1;exact qe
  have g3:(0:Int)< (i:Int):=by omega
  have g4:IntKind.i64.wrap ((i:Int)-1)=((i-1:Nat):Int):=KS i 1 (by omega) (by omega);have g5:((i-1:Nat):Int)< (r.timers.length:Int):=by omega
  obtain⟨y,hy⟩: ∃y,r.timers[i-1]? =some y:=⟨r.timers[i-1],KZ (by omega)⟩;have hv:kC r.timers i= !(Op.bytesLess x.1 y.1||x.1==y.1):=by unfold kC;rw[eA hx,eA hy,a1,a4,LD h0,ol];rfl
  by_cases hc:(Op.bytesLess x.1 y.1||x.1==y.1)=true
  ·rw[hnot (by rw[hv,hc];rfl)];have F:=ai12 iQ.eq_1 g1 g2 hx tmAV.eq_1 a2 a3 g3 g4 g5 hy hc;repeat refine tz1 f1 ?_
   exact aR
  have hc:(Op.bytesLess x.1 y.1||x.1==y.1)=false:=by simpa using hc
  have F:=ai12 iQ.eq_1 g1 g2 hx tmAV.eq_1 a2 a3 g3 g4 g5 hy hc;repeat refine tz1 f1 ?_
  refine⟨i+1,⟨hlt,sQ ha (by rw[hv,hc];rfl)⟩,?_,?_,by omega⟩
  ·exact qe
  ·have F:=iQ.eq_1;exact qe
 rintro vs esc g1 ha;have f4:=wO env r.vars hl.vars;rw[pC (n:=r.timers.length) fun j hj=>ha j (by omega),LN];have F:=ai iQ.eq_1 g1;repeat refine tz1 f4 ?_
 exact aR
theorem mg (env:Env) (c:ChD) (h:Full c) (r:Rc) (hl:LiteI r) (hF: ∀m∈r.mem,Fits m.2.length 8):Con prog env 13 [.agg (aA c), .agg (iQ r)] (B (bW c r)):=
 tt env c h r hl (wR env c h r.mem hl.mem hF)
end
section
def bCell (b:Bool):List AV:=[B b]
def dl (w:WoD):List AV:=[ints34 w.vars,I w.data, .seq 1 (w.act.map bCell)]
theorem kj {n:Int} (h:aL n=true):IntKind.i64.wrap n=n:=by
 rw[bm]at h;exact aU (by omega) (by omega)
theorem gA {n:Int} (h:Big n):IntKind.i64.wrap n=n:=by
 unfold Big at h;exact aU (by omega) (by omega)
theorem jA (env:Env) (b:Bool):Con prog env 270 [B b] (I (trI b)):=by
 cases b
 ·show Con _ _ _ _ (I 0);refine qf func270 call270 ntmps270 results270 ?_;repeat refine st0 ?_
  exact aR0
 ·show Con _ _ _ _ (I 1);refine qf func270 call270 ntmps270 results270 ?_;repeat refine st0 ?_
  exact aR0
theorem u9 (env:Env) (k a:Int) (hk:k=5\/k=6) (ha:aL a=true):Con prog env 259 [I k,I a] (.tuple [I (unI k a),B true]):=by
 have f0:=jA env (a==0);rcases hk with rfl|rfl
 ·have q1:IntKind.i64.wrap (0-a)=unI 5 a:=kj (Cd 5 ha);refine qf func259 call259 ntmps259 results259 ?_;have F:=q1;repeat refine tz1 f0 ?_
  exact aR
 ·have q1:trI (a==0)=unI 6 a:=rfl;refine qf func259 call259 ntmps259 results259 ?_;have F:=q1;repeat refine tz1 f0 ?_
  exact aR
theorem G3 (env:Env) (k a b:Int) (hk:k=8\/k=9) (ha:aL a=true):Con prog env 271 [I k,I a,I b] (.tuple [I (binI k a b).1,B (binI k a b).2]):=by
 by_cases hb:b=0
 ·subst hb;have q1:binI k a 0=(0,false):=by rcases hk with rfl|rfl<;>rfl
  rw[q1];refine qf func271 call271 ntmps271 results271 ?_;repeat refine st0 ?_
  exact aR0
 have q0:(b==0)=false:=by simpa using hb
 rcases hk with rfl|rfl
 ·have q1:binI 8 a b=(a.tdiv b,true):=by simp[binI,hb]
  have q2:=kj (kl (b:=b) ha);rw[q1];refine qf func271 call271 ntmps271 results271 ?_;have F:=ai3 q0 q2 hb;repeat refine st ?_
  exact aR
 ·have q1:binI 9 a b=(a.tmod b,true):=by simp[binI,hb]
  rw[q1];refine qf func271 call271 ntmps271 results271 ?_;have F:=ai q0 hb;repeat refine st ?_
  exact aR
theorem yk (env:Env) (k a b:Int) (hk:12<=k/\k<=17):Con prog env 272 [I k,I a,I b] (B (cmpB k a b)):=by
 obtain rfl|rfl|rfl|rfl|rfl|rfl:k=12\/k=13\/k=14\/k=15\/k=16\/k=17:=by omega
 all_goals (refine i7 func272 rfl call272 (by rw [ntmps272]; simp) ?_
            rw[ntmps272,results272])
 all_goals have F:=cmpB.eq_1
 all_goals (repeat refine st ?_)
 all_goals ((refine aM ?_;show (ae _ _ _).run _=some _;simp only[go_sem,F]))
theorem sL (env:Env) (k a b:Int) (hk:7<=k/\k<=19) (ha:aL a=true) (hb:aL b=true):Con prog env 260 [I k,I a,I b] (.tuple [I (binI k a b).1,B (binI k a b).2]):=by
 have hbig:=(sM k ha hb).1;by_cases h7:k=7
 ·subst h7;have f0:=dS env (a*b);have q1:IntKind.i64.wrap (a*b)=a*b:=gA hbig;show Con _ _ _ _ (.tuple [I (a*b),B (aL (a*b))]);refine qf func260 call260 ntmps260 results260 ?_;have F:=q1;repeat refine tz1 f0 ?_
  exact aR
 by_cases h8:k=8\/k=9
 ·have f0:=G3 env k a b h8 ha;generalize binI k a b=R at*;rcases h8 with rfl|rfl
  ·refine qf func260 call260 ntmps260 results260 ?_;repeat refine kB f0 ?_
   exact aR0
  ·refine qf func260 call260 ntmps260 results260 ?_;repeat refine kB f0 ?_
   exact aR0
 by_cases h10:k=10
 ·subst h10;have f0:=dS env (a+b);have q1:IntKind.i64.wrap (a+b)=a+b:=gA hbig;show Con _ _ _ _ (.tuple [I (a+b),B (aL (a+b))]);refine qf func260 call260 ntmps260 results260 ?_;have F:=q1;repeat refine tz1 f0 ?_
  exact aR
 by_cases h11:k=11
 ·subst h11;have f0:=dS env (a-b);have q1:IntKind.i64.wrap (a-b)=a-b:=gA hbig;show Con _ _ _ _ (.tuple [I (a-b),B (aL (a-b))]);refine qf func260 call260 ntmps260 results260 ?_;have F:=q1;repeat refine tz1 f0 ?_
  exact aR
 have hT: ∀t:Bool,Con prog env 59 [I (trI t)] (B true):=fun t=>by
  have:=dS env (trI t);rwa [gF]at this
 by_cases h18:k=18
 ·subst h18;show Con _ _ _ _ (.tuple [I (trI (a != 0&&b != 0)),B true]);have f0:=jA env (a != 0&&b != 0);have f1:=hT (a != 0&&b != 0);cases h0:(a != 0)
  ·rw[h0]at f0 f1;refine qf func260 call260 ntmps260 results260 ?_;have F:=h0;repeat refine tz2 f0 f1 ?_
   exact aR
  ·rw[h0]at f0 f1;refine qf func260 call260 ntmps260 results260 ?_;have F:=h0;repeat refine tz2 f0 f1 ?_
   exact aR
 by_cases h19:k=19
 ·subst h19;show Con _ _ _ _ (.tuple [I (trI (a != 0||b != 0)),B true]);have f0:=jA env (a != 0||b != 0);have f1:=hT (a != 0||b != 0);cases h0:(a != 0)
  ·rw[h0]at f0 f1;refine qf func260 call260 ntmps260 results260 ?_;have F:=h0;repeat refine tz2 f0 f1 ?_
   exact aR
  ·rw[h0]at f0 f1;refine qf func260 call260 ntmps260 results260 ?_;have F:=h0;repeat refine tz2 f0 f1 ?_
   exact aR
 have q1:binI k a b=(trI (cmpB k a b),true):=by
  unfold binI;rw[K2 h7,K2 (by omega),K2 (by omega),K2 h10,K2 h11,K2 h18,K2 h19]
 rw[q1];have f0:=yk env k a b (by omega);have f1:=jA env (cmpB k a b);have f2:=hT (cmpB k a b);generalize cmpB k a b=R at*;obtain rfl|rfl|rfl|rfl|rfl|rfl:k=12\/k=13\/k=14\/k=15\/k=16\/k=17:=by omega
 all_goals (refine i7 func260 rfl call260 (by rw [ntmps260]; simp) ?_
            rw[ntmps260,results260])
 all_goals (repeat refine GE f0 f1 f2 ?_)
 all_goals ((refine aM ?_;show (ae _ _ _).run _=some _;simp only[go_sem]))
theorem zf (env:Env) (w:WoD) (o:OpD) (hk:1<=o.kind/\o.kind<=4) (h:mF o w.vars.length w.act.length=true):Con prog env 258 [.agg (bR o), .agg (dl w)] (I (leafI w o)):=by
 obtain⟨k,n⟩:=o;simp only at hk;unfold leafI;unfold mF at h;simp only at h |-;obtain rfl|rfl|rfl|rfl:k=1\/k=2\/k=3\/k=4:=by omega
 ·show Con _ _ _ _ (I n);refine qf func258 call258 ntmps258 results258 ?_;have F:=ai bR.eq_1 dl.eq_1;repeat refine st ?_
  exact aR
 ·have h:0<=n/\n<w.vars.length:=by simpa using h
  obtain⟨m,rfl⟩:=fJ h.1;have q1:(m:Int)< (w.vars.length:Int):=h.2;have q2:w.vars[m]? =some (w.vars.getD m 0):=by rw[Kv,KZ (by omega)];rfl
  show Con _ _ _ _ (I (w.vars.getD ((m:Int).toNat) 0));rw[Ln];refine qf func258 call258 ntmps258 results258 ?_;have F:=ai5 bR.eq_1 dl.eq_1 intAV.eq_1 q1 q2;repeat refine st ?_
  exact aR
 ·show Con _ _ _ _ (I w.data);refine qf func258 call258 ntmps258 results258 ?_;have F:=ai bR.eq_1 dl.eq_1;repeat refine st ?_
  exact aR
 ·have h:0<=n/\n<w.act.length:=by simpa using h
  obtain⟨m,rfl⟩:=fJ h.1;have q1:(m:Int)< (w.act.length:Int):=h.2;have q2:w.act[m]? =some (w.act.getD m false):=by rw[Kv,KZ (by omega)];rfl
  show Con _ _ _ _ (I (trI (w.act.getD ((m:Int).toNat) false)));rw[Ln];have f0:=jA env (w.act.getD m false);generalize w.act.getD m false=t at*;refine qf func258 call258 ntmps258 results258 ?_;have F:=ai5 bR.eq_1 dl.eq_1 bCell.eq_1 q1 q2;repeat refine tz1 f0 ?_
  exact aR
end
section
theorem DC {c:ChD} {act:List Int} (h:lgB c act=true): ∃l:List Nat,act=zL l/\ ∀k∈l,k<c.states.length:=by
 have h1:=(xc.1 h).1
 have hr: ∀x∈act,0<=x/\x< (c.states.length:Int):=fun x hx=>by
  obtain⟨n,hn,e⟩:=Lr hx;have:=h1 n hn;rw[rT (K0.2 ⟨hn,e⟩),K3]at this;have h2:=this.2;cases hz:inZ c x with
  |false=>rw[nk hz]at h2;cases h2
  |true=>exact aH.1 hz
 refine⟨act.map Int.toNat,?_,fun k hk=> ?_⟩
 ·unfold zL;rw[Ms];refine((MN fun x hx=> ?_).trans (List.map_id act)).symm;have:=hr x hx;show ((x.toNat:Nat):Int)=x;omega
 ·obtain⟨x,hx,rfl⟩:=Kb.1 hk;have:=hr x hx;omega
def Ix (c:ChD) (l:List Nat) (k:Nat):Bool:=manyI (zL l) (kidsL c k true)==0
def lnTo (c:ChD) (l:List Nat) (j:Nat):List Nat:=(l.take j).filter (Ix c l)
def innL (c:ChD) (l:List Nat):List Nat:=sortL c (zL (lnTo c l l.length))
theorem Er {c:ChD} {l:List Nat} {j k:Nat} (h:l[j]? =some k):lnTo c l (j+1)=if Ix c l k then lnTo c l j++[k] else lnTo c l j:=by
 unfold lnTo;rw[Ky,h,LE];cases hb:Ix c l k<;>simp[hb]
theorem z8 (c:ChD) (l:List Nat) (j:Nat):(lnTo c l j).length<=l.length:=by
 unfold lnTo;exact Km (Kq ..) (by rw[Kg];omega)
theorem yd (env:Env) (c:ChD) (h:Full c) (l:List Nat) (hl:l.length<=1000) (hk: ∀k∈l,k<c.states.length):Con prog env 61 [aJ c, .seq 1 (l.map aB)] (.own 3 1 ((innL c l).map aB)):=by
 have hlen:=h.few;have f0:=jJ env c (by omega) (zL l) (by rw[an];omega);rw[bc]at f0;have f1:=fun k:Nat=>bV env c h k;have f2:=fun k:Nat=>so env c.states.length (zL l) (kidsL c k true) (by omega) (by have:=bD h.toRight k true;omega) (fun j hj=>by have:=bE h.toRight (aX hj).1;omega);have f3:=bL env c;have f4:=fP env c h.toRight (zL (lnTo c l l.length)) (by rw[an];have:=z8 c l l.length;omega);rw[bc]at f4;show Con _ _ _ _ (.own _ 1 ((sortL c (zL (lnTo c l l.length))).map aB));generalize sortL c (zL (lnTo c l l.length))=R at*;unfold aP at f3 f4;unfold aJ at f0 f1 f3 |-;generalize hFL:flagA c.states.length (zL l)=FL at*;try clear hFL
 refine qf func61 call61 ntmps61 results61 ?_;repeat refine st0 ?_
 refine aj 5 5 3 1 ?_;refine lq0 l.length (by omega) (fun j vs=>[(0, .ref 9 [tabCells c] 0 0),(1, .seq 1 (l.map aB)),(5, .row 5 (vs 5)),(8, .seq 1 (l.map aB)),(9,I l.length),(10,I j)]) (fun j _=>[(5,⟨1,(lnTo c l j).map aB,3,true⟩)]) (fun j _ esc=>esc 5=false) rfl ?_ ?_
 ·rintro j ws esc hlt q1 q2 e0;obtain⟨k,hx⟩:=gE hlt;have hkl:=hk k (K4 hx);have f1:=f1 k;rw[K5 (.inr (aV.2 hkl))]at f1;have f2:=f2 k;have hle:=z8 c l j;have hf:Fits ((lnTo c l j).length+1) 8:=aC (by omega) (by omega);have hn:=Er (c:=c) hx;have hp:Ix c l k=(manyI (zL l) (kidsL c k true)==0):=rfl;cases hb:Ix c l k with
  | true=>
    rw[hb,K5 rfl]at hn;rw[hb]at hp
    have b0:(((manyI (zL l) (kidsL c k true):Nat):Int)==0)=true:=by
     have:=L5.1 hp.symm;simp;omega
    have F:=ai7 aB.eq_1 hx q1 q2 b0 hf e0;repeat refine tz3 f0 f1 f2 ?_
    refine⟨j+1,⟨hlt,by simp only[go_sem,e0]⟩,?_,?_,by omega⟩
    ·exact qe
    ·have F:=ai3 aB.eq_1 hn @Ka.{0,0};exact qe
  | false=>
    rw[hb,K2 LO]at hn;rw[hb]at hp
    have b0:(((manyI (zL l) (kidsL c k true):Nat):Int)==0)=false:=by
     have: ¬manyI (zL l) (kidsL c k true)=0:=fun q=>by rw[q]at hp;cases hp
     simp;omega
    have F:=ai6 aB.eq_1 hx q1 q2 b0 e0;repeat refine tz3 f0 f1 f2 ?_
    refine⟨j+1,⟨hlt,by simp only[go_sem,e0]⟩,?_,?_,by omega⟩
    ·exact qe
    ·have F:=ai aB.eq_1 hn;exact qe
 ·rintro ws esc q1 e0;have F:=ai q1 e0;repeat refine tz2 f3 f4 ?_
  exact aR
theorem Ec (env:Env) (a1 a8:Addr) (he:ChEnv env a1 a8) (c:ChD) (h:Full c) (hsm:Small c) (l:List Nat) (hl:l.length<=1000) (hk: ∀k∈l,k<c.states.length) (hb:lgB c (zL l)=true):Con prog env 23 [aJ c, .seq 1 (l.map aB)] (.tuple [.seq 1 ((innL c l).map aB),nilE]):=by
 have f0:=cQ env a1 a8 he c h hsm (zL l) (by rw[an];omega);unfold uO at f0;rw[K5 hb,bc]at f0;have f1:=yd env c h l hl hk;unfold aJ at f0 f1 |-;generalize innL c l=R at*;refine qf func23 call23 ntmps23 results23 ?_;repeat refine Ce f0 f1 ?_
 exact aR0
end
section
def ij (w:WoD) (g:List OpD):Option Bool:=if g=[] then some true else(lD w g).map fun n=>n != 0
def l8 (c:ChD) (n:Nat):List OpD:=match c.trans[n]? with
 |some t=>t.guard
 |none=>[]
def dm (c:ChD) (n:Nat):TrD:=c.trans.getD n ⟨0,[],[],[],0⟩
theorem eY {c:ChD} {n:Nat} {t:TrD} (h:c.trans[n]? =some t):dm c n=t:=by
 unfold dm;rw[Kv,h];rfl
inductive Fd where
 |no
 |one (n:Nat)
 |bad (n:Nat)
def ce (c:ChD) (w:WoD):List Nat->Fd
 |[]=> .no
 | n::l=>match ij w (l8 c n) with
   |none=> .bad n
   |some true=> .one n
   |some false=>ce c w l
def eV (c:ChD) (w:WoD) (ev:List UInt8):List Int->Fd
 |[]=> .no
 | k::l=>match ce c w (d4 c k ev c.trans.length) with
   | .no=>eV c w ev l
   |r=>r
def d6 (c:ChD) (w:WoD) (ev:List UInt8):List Nat->List Nat->Except Nat (List Nat)
 |[],o=> .ok o
 | i::l,o=>match eV c w ev ((i:Int)::upL c i) with
   | .bad n=> .error n
   | .no=>d6 c w ev l o
   | .one n=>d6 c w ev l (if o.contains n then o else o++[n])
def eH (c:ChD) (act:List Int) (a b:Nat):Bool:=(leaveR c act (dm c a)).any fun i=>(leaveR c act (dm c b)).contains i
def uU (c:ChD) (act:List Int) (n k:Nat):Bool:= !eH c act k n||aboveB c (dm c k).src (dm c n).src
def takeL (c:ChD) (act:List Int) (l:List Nat) (n:Nat):List Nat:=if l.all (uU c act n) then(l.filter fun k=> !eH c act k n)++[n] else l
def Hm (c:ChD) (act:List Int) (l:List Nat):List Nat:=l.foldl (takeL c act) []
def u0 (c:ChD) (act:List Int) (w:WoD) (ev:List UInt8) (inn:List Nat):Except Nat (List Nat):=match d6 c w ev inn []with
 | .ok l=> .ok (Hm c act l)
 | .error n=> .error n
structure Fit (c:ChD) (act:List Int) (l:List Nat):Prop where
 real: ∀n∈l,∃t,c.trans[n]? =some t/\t.src∈act
 two:l.Pairwise fun k n=>k≠n/\eH c act k n=false
theorem Fit.nil (c:ChD) (act:List Int):Fit c act []:=⟨fun _ h=>by simp at h, .nil⟩
theorem Fit.take {c:ChD} {act:List Int} {l:List Nat} (h:Fit c act l) {n:Nat} (hn: ∃t,c.trans[n]? =some t/\t.src∈act) (hl:n∉l):Fit c act (takeL c act l n):=by
 unfold takeL;split
 ·refine⟨fun m hm=> ?_,?_⟩
  ·rcases Kx.1 hm with hm|hm
   ·exact h.real m (Ke.1 hm).1
   ·rw[Kl.1 hm];exact hn
  ·refine NB.2 ⟨h.two.sublist Lp,NF ..,fun a ha b hb=> ?_⟩;rw[Kl.1 hb];obtain⟨h1,h2⟩:=Ke.1 ha;exact⟨fun e=>hl (e ▸ h1),by simpa using h2⟩
 ·exact h
theorem zA {c:ChD} {act:List Int} {l:List Nat} {n m:Nat} (h:m∈takeL c act l n):m∈l\/m=n:=by
 unfold takeL at h;split at h
 ·rcases Kx.1 h with h|h
  ·exact .inl (Ke.1 h).1
  ·exact .inr (Kl.1 h)
 ·exact .inl h
theorem zp {c:ChD} {act:List Int} : ∀(l:List Nat) (o:List Nat),Fit c act o->(∀n∈l,∃t,c.trans[n]? =some t/\t.src∈act)->l.Nodup->(∀n∈l,n∉o)->Fit c act (l.foldl (takeL c act) o)
 |[],o,h,_,_,_=>h
 | n::l,o,h,hl,hn,ho=>by
   obtain⟨n1,n2⟩:=Ma.1 hn;refine zp l _ (h.take (hl n (by simp)) (ho n (by simp))) (fun m hm=>hl m (by simp[hm])) n2 fun m hm hh=> ?_;rcases zA hh with e|e
   ·exact ho m (by simp[hm]) e
   ·exact n1 (e ▸ hm)
theorem zr {c:ChD} {w:WoD} {n:Nat} : ∀ {l:List Nat},ce c w l= .one n->n∈l
 |[],h=>by simp[ce]at h
 | k::l,h=>by
   unfold ce at h;split at h
   ·cases h
   ·cases h;simp
   ·exact Ly _ (zr h)
theorem xG {c:ChD} {w:WoD} {ev:List UInt8} {n:Nat} : ∀ {l:List Int},eV c w ev l= .one n-> ∃k∈l,∃t,c.trans[n]? =some t/\t.src=k/\t.event=ev
 |[],h=>by simp[eV]at h
 | k::l,h=>by
   unfold eV at h;split at h
   ·obtain⟨j,hj,q⟩:=xG h;exact⟨j,Ly _ hj,q⟩
   ·rename_i r hr;have:=zr h;unfold d4 at this;obtain⟨h1,h2⟩:=Ke.1 this;unfold xZ at h2;cases ht:c.trans[n]? with
    |none=>rw[ht]at h2;cases h2
    | some t=>
      rw[ht]at h2;simp only[Kh]at h2;exact⟨k,by simp,t,rfl,h2.1,h2.2⟩
theorem tL {c:ChD} (h:Full c) {act:List Int} (hg:Lg c act) {w:WoD} {ev:List UInt8} : ∀(l o f:List Nat),d6 c w ev l o= .ok f->(∀i∈l,(i:Int)∈act)->(∀n∈o,∃t,c.trans[n]? =some t/\t.src∈act/\t.event=ev)->o.Nodup->(∀n∈f,∃t,c.trans[n]? =some t/\t.src∈act/\t.event=ev)/\f.Nodup
 | [],o,f,e,_,ho,hn=>by
   simp only[d6,Except.ok.injEq]at e;subst e;exact⟨ho,hn⟩
 | i::l,o,f,e,hl,ho,hn=>by
   unfold d6 at e;split at e
   ·cases e
   ·exact tL h hg l o f e (fun j hj=>hl j (by simp[hj])) ho hn
   ·rename_i n hf;refine tL h hg l _ f e (fun j hj=>hl j (by simp[hj])) ?_ ?_
    ·obtain⟨k,hk,t,ht,hs,hev⟩:=xG hf;have hi:=hl i (by simp);have hz:=(h.src ht).1
     have hka:t.src∈act:=by
      rw[hs]at hz |-;rcases Kr.1 hk with e|hk
      ·rw[e];exact hi
      ·exact hg.up h.toRight ((i:Int).toNat+1) i k (by omega) hi hk (aH.1 hz).1
     split
     ·exact ho
     ·intro m hm;rcases Kx.1 hm with hm|hm
      ·exact ho m hm
      ·rw[Kl.1 hm];exact⟨t,ht,hka,hev⟩
    ·split
     ·exact hn
     ·rename_i hc;refine MW.2 ⟨hn,by simp,fun a ha b hb e=>hc ?_⟩;rw[Kl.1 hb]at e;rw[K6, <-e];exact ha
theorem Iw {c:ChD} (h:Full c) {l:List Nat} (hk: ∀k∈l,k<c.states.length) {i:Nat} (hi:i∈innL c l):i∈l:=by
 have hs: ∀j,j∈lnTo c l l.length->j∈l:=fun j hj=>MV (Ke.1 hj).1
 have hz:(zL (lnTo c l l.length)).all (inZ c)=true:=K7.2 fun x hx=>by
  obtain⟨j,hj,rfl⟩:=Kb.1 hx;exact aV.2 (hk j (hs j hj))
 unfold innL at hi;rw[zF h.toRight hz]at hi;obtain⟨j,hj,e⟩:=Kb.1 hi;have:j=i:=by omega
 exact this ▸ hs j hj
theorem HT {c:ChD} (h:Full c) {act:List Int} (hg:Lg c act) {w:WoD} {ev:List UInt8} {inn f:List Nat} (hi: ∀i∈inn,(i:Int)∈act) (e:u0 c act w ev inn= .ok f):Fit c act f:=by
 unfold u0 at e;split at e
 ·rename_i l hl;cases e;obtain⟨h1,h2⟩:=tL h hg inn [] l hl hi (fun n hn=>by simp at hn) .nil;exact zp l [] (Fit.nil c act) (fun n hn=>by obtain⟨t,q1,q2,_⟩:=h1 n hn;exact⟨t,q1,q2⟩) h2 (fun n _ hh=>by simp at hh)
 ·cases e
end
section
def ofL (mem:List MemD) (h:Int):List Int:=match mem.find? (fun m=>m.1==h) with|some m=>m.2|none=>[]
theorem Cm (env:Env) (mem:List MemD) (h:Int) (hl:mem.length<=1000000):Con prog env 83 [memsAV mem,I h] (.seq 1 ((ofL mem h).map intAV)):=by
 unfold ofL;cases hm:mem.find? (fun m=>m.1==h) with
 | some m=>
   simp only;refine qf func83 call83 ntmps83 results83 ?_;repeat refine st0 ?_
   refine lq0 mem.length (by omega) (fun j vs=>[(0,memsAV mem),(1,I h),(5,I j)]) (fun _ _=>[]) (fun j _ _=>mem.find? (fun m=>m.1==h)=(mem.drop j).find? (fun m=>m.1==h)) rfl ?_ ?_
   ·rintro j ws esc hlt q1 q2 hf;obtain⟨x,hx⟩:=gE hlt;rw[ge hx]at hf;cases he:(x.1==h) with
    | true=>
      rw[he]at hf;simp only[L1]at hf;obtain rfl:m=x:=by rw[hm]at hf;cases hf;rfl
      have F:=ai4 mmAV.eq_1 hx q1 he;repeat refine st ?_
      exact aR
    | false=>
      rw[he]at hf;simp only[Ku,Ld]at hf;have F:=ai5 mmAV.eq_1 hx q1 q2 he;repeat refine st ?_
      exact qn (j+1) ⟨hlt,hf⟩
   ·rintro ws esc q1 hf;rw[Ls,NZ]at hf;rw[hm]at hf;cases hf
 | none=>
   simp only;refine qw func83 call83 ntmps83 results83 ?_;have F:=mmAV.eq_1;repeat refine st ?_
   refine lq mem.length (by omega) (fun j vs=>[(0,memsAV mem),(1,I h),(5,I j)]) (fun _ _=>[]) (fun j _ _=>mem.find? (fun m=>m.1==h)=(mem.drop j).find? (fun m=>m.1==h)) rfl ?_ ?_
   ·rintro j ws esc hlt q1 q2 hf;obtain⟨x,hx⟩:=gE hlt;rw[ge hx]at hf;cases he:(x.1==h) with
    | true=>
      rw[he]at hf;simp only[L1]at hf;rw[hm]at hf;cases hf
    | false=>
      rw[he]at hf;simp only[Ku,Ld]at hf;have F:=ai5 mmAV.eq_1 hx q1 q2 he;repeat refine st ?_
      exact qn (j+1) ⟨hlt,hf⟩
   ·rintro ws esc q1 hf;rw[Ls,NZ]at hf;have F:=q1;repeat refine st ?_
    (refine aM ?_;refine⟨_,(by show (ae _ _ _).run _=some _;simp only[go_sem,F];rfl),?_⟩)
    exact .of (.nil 1) (fun _ _ _ h=>by cases h) (fun _ _ _ h=>by cases h)
theorem FC {c:ChD} {l:List Int} {j:Nat} (hj:j<c.states.length):eO c l j=match jR c l j with|some v=>some v|none=>eO c l (j+1):=by
 unfold eO;rw[MP (by simpa using hj),List.getElem_range,List.findSome?_cons];cases jR c l j<;>rfl
theorem Gn (c:ChD) (l:List Int):eO c l c.states.length=none:=by
 unfold eO;rw[La (by simp)];rfl
theorem BC (env:Env) (c:ChD) (h:Full c) (l:List Int) (hl:l.length<=1000000):Con prog env 147 [.agg (aA c), .seq 1 (l.map intAV)] (I (lackI c l)):=by
 have hlen:=h.few;have fK:=fun(i:Int)=>bj env c i true (by omega);unfold aA at fK;unfold lackI;refine qf func147 call147 ntmps147 results147 ?_;have F:=aA.eq_1;repeat refine st ?_
 have F:=aA.eq_1;refine lq c.states.length (by omega) (fun j vs=>[(1, .seq 1 (l.map intAV)),(2, .loc 2 (vs 2) 0 0),(5,I j)]) (fun _ _=>[(2,⟨5,[aA c],26,false⟩)]) (fun j _ _=>eO c l 0=eO c l j) rfl ?_ ?_
 ·rintro j ws esc hlt q1 q2 hinv;obtain⟨s,hsk⟩:=gE hlt;have f0:=cL env l (j:Int) hl;rw[FC hlt]at hinv;have hat:jR c l j=if l.contains (j:Int)=true then(if s.kind=1/\kidsL c j true≠[]/\manyI l (kidsL c j true)=0 then some s.initial else if s.kind=2 then(kidZ c j).find? (fun k=> !l.contains k) else none) else none:=by unfold jR;rw[hsk]
  cases hc:l.contains (j:Int) with
  | false=>
    rw[hc]at f0 hat;rw[K2 LO]at hat;rw[hat]at hinv;simp only at hinv;have F:=ai3 aA.eq_1 q1 q2;repeat refine tz1 f0 ?_
    refine⟨j+1,⟨hlt,hinv⟩,?_,?_,by omega⟩
    ·exact qe
    ·have F:=aA.eq_1;exact qe
  | true=>
    rw[hc]at f0 hat;rw[K5 rfl]at hat;have e4:=fK (j:Int);have hK:=bD h.toRight j true;have e5:=jE env l (kidsL c j true) hl (by omega);have hZ:kidZ c (j:Int)=zL (kidsL c j true):=rfl;rw[hZ]at hat;generalize kidsL c (j:Int) true=K at*;have hLK:(zL K).length=K.length:=an K;by_cases hA:s.kind=1/\K≠[]/\manyI l K=0
    ·rw[K5 hA]at hat;rw[hat]at hinv;rw[hinv,Lb];have b1:(s.kind==1)=true:=by simp[hA.1]
     have b2:(0:Int)< (K.length:Int):=by
      have:=Lw.2 hA.2.1;omega
     have b3:((manyI l K:Nat):Int)=0:=by rw[hA.2.2];rfl
     generalize manyI l K=N at*;have F:=ai7 aA.eq_1 aK.eq_1 hsk q1 b1 b2 b3;repeat refine tz3 f0 e4 e5 ?_
     exact aR
    ·have hz0:K.length=0->(((zL K).find? fun k=> !l.contains k)=none):=fun e=>by rw[Lz.1 e];rfl
     have hnone:s.kind≠2\/K.length=0->eO c l 0=eO c l (j+1):=fun q=>by
      rw[K2 hA]at hat
      have:jR c l j=none:=by
       rw[hat];rcases q with q|q
       ·rw[K2 q]
       ·rw[hz0 q];split<;>rfl
      rw[this]at hinv;exact hinv
     cases b1:(s.kind==1) with
     | true=>
       have hk1:s.kind=1:=by simpa using b1
       have b2:(s.kind==2)=false:=by simp[hk1]
       have hinv:=hnone (.inl (by omega));by_cases hk0:K.length=0
       ·have q4: ¬(0:Int)< (K.length:Int):=by omega
        have F:=ai6 aA.eq_1 aK.eq_1 hsk q1 b1 q4;repeat refine tz3 f0 e4 e5 ?_
        refine aI (D:=Unit) (fun _ vs=>[(1, .seq 1 (l.map intAV)),(2, .loc 2 (vs 2) 0 0),(5,I j),(6, .row 21 (vs 21)),(7,I 0)]) (fun _ _=>[(2,⟨5,[aA c],26,false⟩),(21,⟨1,K.map aB,3,true⟩)]) (fun _ _ _=>True) (fun _=>0) () trivial ?_ ?_ ?_
        ·(simp only[go_sem,F])
         try rfl
        ·have F:=aA.eq_1
         (simp only[go_sem,F])
         try rfl
        rintro _ us es _;have F:=ai6 aA.eq_1 aK.eq_1 hsk q1 q2 q4;repeat refine st ?_
        refine⟨j+1,⟨hlt,hinv⟩,?_,?_,by omega⟩
        ·exact qe
        ·have F:=aA.eq_1;exact qe
       ·have q4:(0:Int)< (K.length:Int):=by omega
        have b3:(((manyI l K:Nat):Int)==0)=false:=by
         have:manyI l K≠0:=fun e=>hA ⟨hk1,fun e2=>hk0 (by rw[e2];rfl),e⟩;simp;omega
        generalize manyI l K=N at*;have F:=ai7 aA.eq_1 aK.eq_1 hsk q1 b1 q4 b3;repeat refine tz3 f0 e4 e5 ?_
        refine aI (D:=Unit) (fun _ vs=>[(1, .seq 1 (l.map intAV)),(2, .loc 2 (vs 2) 0 0),(5,I j),(6, .row 21 (vs 21)),(7,I 0)]) (fun _ _=>[(2,⟨5,[aA c],26,false⟩),(21,⟨1,K.map aB,3,true⟩)]) (fun _ _ _=>True) (fun _=>0) () trivial ?_ ?_ ?_
        ·(simp only[go_sem,F])
         try rfl
        ·have F:=aA.eq_1
         (simp only[go_sem,F])
         try rfl
        rintro _ us es _;have F:=ai7 aA.eq_1 aK.eq_1 hsk q1 q2 q4 b2;repeat refine st ?_
        refine⟨j+1,⟨hlt,hinv⟩,?_,?_,by omega⟩
        ·exact qe
        ·have F:=aA.eq_1;exact qe
     | false=>
       have hk1:s.kind≠1:=by simpa using b1
       cases b2:(s.kind==2) with
       | false=>
         have hinv:=hnone (.inl (by simpa using b2));by_cases hk0:K.length=0
         ·have q4: ¬(0:Int)< (K.length:Int):=by omega
          have F:=ai5 aA.eq_1 aK.eq_1 hsk q1 b1;repeat refine tz3 f0 e4 e5 ?_
          refine aI (D:=Unit) (fun _ vs=>[(1, .seq 1 (l.map intAV)),(2, .loc 2 (vs 2) 0 0),(5,I j),(6, .row 21 (vs 21)),(7,I 0)]) (fun _ _=>[(2,⟨5,[aA c],26,false⟩),(21,⟨1,K.map aB,3,true⟩)]) (fun _ _ _=>True) (fun _=>0) () trivial ?_ ?_ ?_
          ·(simp only[go_sem,F])
           try rfl
          ·have F:=aA.eq_1
           (simp only[go_sem,F])
           try rfl
          rintro _ us es _;have F:=ai6 aA.eq_1 aK.eq_1 hsk q1 q2 q4;repeat refine st ?_
          refine⟨j+1,⟨hlt,hinv⟩,?_,?_,by omega⟩
          ·exact qe
          ·have F:=aA.eq_1;exact qe
         ·have q4:(0:Int)< (K.length:Int):=by omega
          have F:=ai5 aA.eq_1 aK.eq_1 hsk q1 b1;repeat refine tz3 f0 e4 e5 ?_
          refine aI (D:=Unit) (fun _ vs=>[(1, .seq 1 (l.map intAV)),(2, .loc 2 (vs 2) 0 0),(5,I j),(6, .row 21 (vs 21)),(7,I 0)]) (fun _ _=>[(2,⟨5,[aA c],26,false⟩),(21,⟨1,K.map aB,3,true⟩)]) (fun _ _ _=>True) (fun _=>0) () trivial ?_ ?_ ?_
          ·(simp only[go_sem,F])
           try rfl
          ·have F:=aA.eq_1
           (simp only[go_sem,F])
           try rfl
          rintro _ us es _;have F:=ai7 aA.eq_1 aK.eq_1 hsk q1 q2 q4 b2;repeat refine st ?_
          refine⟨j+1,⟨hlt,hinv⟩,?_,?_,by omega⟩
          ·exact qe
          ·have F:=aA.eq_1;exact qe
       | true=>
         have hk2:s.kind=2:=by simpa using b2
         rw[K2 hA,K5 hk2]at hat;rw[hat]at hinv;try clear hnone hz0
         have F:=ai5 aA.eq_1 aK.eq_1 hsk q1 b1;repeat refine tz3 f0 e4 e5 ?_
         have F:=aA.eq_1;refine lq K.length (by omega) (fun m vs=>[(1, .seq 1 (l.map intAV)),(2, .loc 2 (vs 2) 0 0),(5,I j),(6, .row 21 (vs 21)),(7,I m)]) (fun _ _=>[(2,⟨5,[aA c],26,false⟩),(21,⟨1,K.map aB,3,true⟩)]) (fun m _ _=>((zL K).find? fun k=> !l.contains k)=((zL K).drop m).find? fun k=> !l.contains k) rfl ?_ ?_
         ·rintro m us es hml p1 p2 hfd;obtain⟨y,hy⟩:=gE hml;have g0:=cL env l (y:Int) hl;have hyz:(zL K)[m]? =some (y:Int):=by unfold zL;rw[K9,hy];rfl
          rw[ge hyz]at hfd;cases hb:l.contains (y:Int) with
          | false=>
            rw[hb]at g0 hfd;rw[K5 (by rfl)]at hfd;rw[hfd]at hinv;simp only at hinv;rw[hinv,Lb];have F:=ai8 aA.eq_1 aK.eq_1 aB.eq_1 hsk hy q1 p1 b2;repeat refine tz1 g0 ?_
            exact aR
          | true=>
            rw[hb]at g0 hfd;rw[K2 (by simp)]at hfd;have F:=ai9 aA.eq_1 aK.eq_1 aB.eq_1 hsk hy q1 p1 p2 b2;repeat refine tz1 g0 ?_
            refine⟨m+1,⟨hml,hfd⟩,?_,?_,by omega⟩
            ·exact qe
            ·have F:=aA.eq_1;exact qe
         ·rintro us es p1 hfd;rw[La (by rw[hLK];exact Kc _),NZ]at hfd;rw[hfd]at hinv;simp only at hinv;have F:=ai6 aA.eq_1 aK.eq_1 hsk q1 q2 p1;repeat refine st ?_
          refine⟨j+1,⟨hlt,hinv⟩,?_,?_,by omega⟩
          ·exact qe
          ·have F:=aA.eq_1;exact qe
 ·rintro ws esc q1 hinv;rw[hinv,Gn,M5];have F:=ai aA.eq_1 q1;repeat refine st ?_
  exact aR
end

end Go.Proofs.YtdpjgflalmnkdaaGreatDoor