/- What actions make of an instance, plain. No program is named here. -/
import Derived.Test.YtbjldjekgepopaaGreatDoorT20
import Derived.Test.YtbjldjekgepopaaGreatDoorT7
set_option maxRecDepth 100000
set_option maxHeartbeats 16000000
set_option linter.unusedSimpArgs false
namespace Go.Proofs.YtbjldjekgepopaaGreatDoor
open Go.Proofs.Tryz
section
open Go.RowKit
def fZ (c:ChD) (x:Int):Bool:=match c.states[x.toNat]? with
 |some s=>decide (s.parent<0)&&(s.kind==3)
 |none=>false
def j6 (c:ChD) (act:List Int):Bool:=act.any (fZ c)
theorem xp {c:ChD} {act:List Int} {i:Nat} {x:Int} (ha:(act.take i).any (fZ c)=false) (hx:act[i]? =some x) (h:fZ c x=false):(act.take (i+1)).any (fZ c)=false:=by
 rw[Kv,hx,List.any_append,ha];simp[h]
theorem Dp {c:ChD} {act:List Int} {i:Nat} {x:Int} (hx:act[i]? =some x) (h:fZ c x=true):j6 c act=true:=L8.2 ⟨x,K1 hx,h⟩
theorem GY (env:Env) (c:ChD) (act:List Int) (hl:act.length<=1000000) (hr: ∀x∈act,0<=x/\x<c.states.length):Con prog env 91 [.agg (aA c),ints34 act] (B (j6 c act)):=by
 refine qf func91 call91 ntmps91 results91 ?_;have F:=aA.eq_1;repeat refine st ?_
 have F:=aA.eq_1;refine lq act.length (by omega) (fun i vs=>[(2, .loc 2 (vs 2) 0 0),(7,ints34 act),(8,I act.length),(9,I i)]) (fun _ _=>[(2,⟨5,[aA c],26,false⟩)]) (fun i _ _=>(act.take i).any (fZ c)=false) rfl ?_ ?_
 ·rintro i vs esc hlt g1 g2 ha;obtain⟨x,hx⟩:=gE hlt;obtain⟨h0,h1⟩:=hr x (K1 hx);obtain⟨k,rfl⟩:=Ny h0;have hk:k<c.states.length:=by omega
  obtain⟨s,hs⟩:=gE hk;have g3:=nlt hk;have ht:fZ c k=(decide (s.parent<0)&&(s.kind==3)):=by unfold fZ;rw[Lj,hs]
  by_cases b1:s.parent<0
  ·by_cases b2:s.kind=3
   ·rw[Dp hx (by rw[ht,LC b1,b2];rfl)];have F:=ai10 aA.eq_1 aL.eq_1 intAV.eq_1 g1 g2 g3 hx hs b1 b2;repeat refine st ?_
    exact aR
   ·have b3:(s.kind==3)=false:=by simpa using b2
    have F:=ai10 aA.eq_1 aL.eq_1 intAV.eq_1 g1 g2 g3 hx hs b1 b3;repeat refine st ?_
    refine⟨i+1,⟨hlt,xp ha hx (by rw[ht,b3,LZ])⟩,?_,?_,by omega⟩
    ·exact qe
    ·have F:=aA.eq_1;exact qe
  ·have F:=ai9 aA.eq_1 aL.eq_1 intAV.eq_1 g1 g2 g3 hx hs b1;repeat refine st ?_
   refine⟨i+1,⟨hlt,xp ha hx (by rw[ht,Ky b1,LF])⟩,?_,?_,by omega⟩
   ·exact qe
   ·have F:=aA.eq_1;exact qe
 rintro vs esc g1 ha;rw[show j6 c act=false from by rwa [LP (by omega)]at ha];have F:=g1;repeat refine st ?_
 exact aR
theorem E5 (env:Env) (c:ChD) (act:List Int) (hl:act.length<=1000000) (hr: ∀x∈act,0<=x/\x<c.states.length):Con prog env 52 [.agg (aA c),ints34 act] (B (j6 c act)):=by
 refine qf func52 call52 ntmps52 results52 ?_;have F:=aA.eq_1;repeat refine st ?_
 have F:=aA.eq_1;refine lq act.length (by omega) (fun i vs=>[(1,ints34 act),(2, .loc 2 (vs 2) 0 0),(5,I i)]) (fun _ _=>[(2,⟨5,[aA c],26,false⟩)]) (fun i _ _=>(act.take i).any (fZ c)=false) rfl ?_ ?_
 ·rintro i vs esc hlt g1 g2 ha;obtain⟨x,hx⟩:=gE hlt;obtain⟨h0,h1⟩:=hr x (K1 hx);obtain⟨k,rfl⟩:=Ny h0;have hk:k<c.states.length:=by omega
  obtain⟨s,hs⟩:=gE hk;have g3:=nlt hk;have ht:fZ c k=(decide (s.parent<0)&&(s.kind==3)):=by unfold fZ;rw[Lj,hs]
  by_cases b1:s.parent<0
  ·by_cases b2:s.kind=3
   ·rw[Dp hx (by rw[ht,LC b1,b2];rfl)];have F:=ai10 aA.eq_1 aL.eq_1 intAV.eq_1 g1 g2 g3 hx hs b1 b2;repeat refine st ?_
    exact aR
   ·have b3:(s.kind==3)=false:=by simpa using b2
    have F:=ai10 aA.eq_1 aL.eq_1 intAV.eq_1 g1 g2 g3 hx hs b1 b3;repeat refine st ?_
    refine⟨i+1,⟨hlt,xp ha hx (by rw[ht,b3,LZ])⟩,?_,?_,by omega⟩
    ·exact qe
    ·have F:=aA.eq_1;exact qe
  ·have F:=ai9 aA.eq_1 aL.eq_1 intAV.eq_1 g1 g2 g3 hx hs b1;repeat refine st ?_
   refine⟨i+1,⟨hlt,xp ha hx (by rw[ht,Ky b1,LF])⟩,?_,?_,by omega⟩
   ·exact qe
   ·have F:=aA.eq_1;exact qe
 rintro vs esc g1 ha;rw[show j6 c act=false from by rwa [LP (by omega)]at ha];have F:=g1;repeat refine st ?_
 exact aR
theorem G6 (env:Env) (l:List (List UInt8×Int)) (hl:l.length<=9223372036854775807) (hn: ∀t∈l,t.1.length<=9223372036854775807):Con prog env 90 [.seq 2 (l.map tmAV)] (B (cx l)):=by
 refine qf func90 call90 ntmps90 results90 ?_;repeat refine st0 ?_
 refine lq0 l.length (by omega) (fun i _=>[(0, .seq 2 (l.map tmAV)),(5, .seq 2 (l.map tmAV)),(6,I l.length),(7,I i)]) (fun _ _=>[]) (fun i _ _=> ∀j,j<i->jq l j=true) (fun j hj=>by omega) ?_ ?_
 ·rintro i vs esc hlt g1 g2 ha;obtain⟨x,hx⟩:=gE hlt;have f1:=d8 env x.1 (hn x (J7 hx));have hnot:jq l i=false->cx l=false:=fun h=>by rw[cx,sN hlt h];rfl
  cases a1:bX x.1
  ·rw[hnot (by unfold jq;rw[dn hx,a1];rfl)];rw[a1]at f1;have F:=ai4 g1 g2 hx tmAV.eq_1;repeat refine tz1 f1 ?_
   exact aR
  rw[a1]at f1;by_cases a2:x.2<0
  ·rw[hnot (by unfold jq AO;rw[dn hx,Ky (by omega),LZ];rfl)];have F:=ai5 g1 g2 hx tmAV.eq_1 a2;repeat refine tz1 f1 ?_
   exact aR
  by_cases a3:1099511627776<x.2
  ·rw[hnot (by unfold jq AO;rw[dn hx,Ky (by omega),LZ];rfl)];have F:=ai6 g1 g2 hx tmAV.eq_1 a2 a3;repeat refine tz1 f1 ?_
   exact aR
  have a4:AO x.2=true:=LC ⟨by omega,by omega⟩;by_cases h0:i=0
  ·have g3: ¬(0:Int)< (i:Int):=by omega
   have F:=ai7 g1 g2 hx tmAV.eq_1 a2 a3 g3;repeat refine tz1 f1 ?_
   refine⟨i+1,⟨hlt,sM ha ?_⟩,?_,?_,by omega⟩
   ·unfold jq;rw[dn hx,a1,a4,LC h0];rfl
   ·exact qe
   ·exact qe
  have g3:(0:Int)< (i:Int):=by omega
  have g4:IntKind.i64.wrap ((i:Int)-1)=((i-1:Nat):Int):=KP i 1 (by omega) (by omega);have g5:((i-1:Nat):Int)< (l.length:Int):=by omega
  obtain⟨y,hy⟩: ∃y,l[i-1]? =some y:=⟨l[i-1],KV (by omega)⟩;have hv:jq l i= !(Op.bytesLess x.1 y.1||x.1==y.1):=by unfold jq;rw[dn hx,dn hy,a1,a4,Ky h0,o5];rfl
  by_cases hc:(Op.bytesLess x.1 y.1||x.1==y.1)=true
  ·rw[hnot (by rw[hv,hc];rfl)];have F:=ai11 g1 g2 hx tmAV.eq_1 a2 a3 g3 g4 g5 hy hc;repeat refine tz1 f1 ?_
   exact aR
  have hc:(Op.bytesLess x.1 y.1||x.1==y.1)=false:=by simpa using hc
  have F:=ai11 g1 g2 hx tmAV.eq_1 a2 a3 g3 g4 g5 hy hc;repeat refine tz1 f1 ?_
  exact qn (i+1) ⟨hlt,sM ha (by rw[hv,hc];rfl)⟩
 rintro vs esc g1 ha
 have e:cx l=decide ((l.length:Int)<=8):=by
  rw[cx,om (n:=l.length) fun j hj=>ha j (by omega),LK];exact decide_eq_decide.2 (by omega)
 rw[e];have F:=g1;repeat refine st ?_
 exact aR
theorem ug (env:Env) (a1 a8:Addr) (he:ChEnv env a1 a8) (s:List UInt8):Con prog env 92 [Sg s] (errV (-1) (sentV a1)):=by
 have h1:=gX he.e1;have f1:=bT env s a1;refine qf func92 call92 ntmps92 results92 ?_;have F:=h1;repeat refine tz1 f1 ?_
 exact aR
structure LiteI (r:Rc):Prop where
 active:r.active.length<=1000000
 vars:r.vars.length<=1000000
 mem:r.mem.length<=1000000
 timers:r.timers.length<=9223372036854775807
def kh (l:List Int):Bool:=l.all aJ
def ap (c:ChD) (r:Rc):Bool:=lgB c r.active&&bY c r.mem&&(r.vars.length==c.vars.length)&&cx r.timers&&(r.over==j6 c r.active)&&kh r.vars
def nN (a1:Addr) (c:ChD) (r:Rc):AV:=if ap c r=true then nilE else errV (-1) (sentV a1)
theorem JL {c:ChD} {act:List Int} (h:lgB c act=true): ∀x∈act,0<=x/\x<c.states.length:=fun x hx=>by
 obtain⟨i,hi⟩:=Lw.1 hx;have h1:=(xe.1 h).1 i (KW.1 hi).1;rw[rU hi,KY]at h1;have h2:=h1.2;unfold tm at_ at h2;by_cases h0:0<=x
 ·rw[K0 h0]at h2;cases hs:c.states[x.toNat]? with
  |none=>rw[hs]at h2;cases h2
  |some s=>have:=(KW.1 hs).1;omega
 ·rw[KZ h0]at h2;cases h2
end
section
open Go.RowKit
theorem D1 {l:List Int} {i:Nat} {x:Int} (ha:(l.take i).all aJ=true) (hx:l[i]? =some x) (h:aJ x=true):(l.take (i+1)).all aJ=true:=by
 rw[Kv,hx,Nt,ha];simp[h]
theorem D2 {l:List Int} {i:Nat} {x:Int} (hx:l[i]? =some x) (h:aJ x=false):kh l=false:=by
 unfold kh;rw[M9];exact⟨x,K1 hx,by rw[h];exact LY⟩
theorem yZ (env:Env) (a1 a8:Addr) (he:ChEnv env a1 a8) (c:ChD) (h:Full c) (hs:Small c) (r:Rc) (hl:LiteI r) (hn: ∀t∈r.timers,t.1.length<=9223372036854775807) (f3:Con prog env 89 [aC c,memsAV r.mem] (Hr a1 c r.mem)):Con prog env 47 [aC c, .agg (iF r)] (nN a1 c r):=by
 have f1:=ak env c hs;have f2:=cJ env a1 a8 he c h hs r.active hl.active;have f4:=G6 env r.timers hl.timers hn;have f6:=ug env a1 a8 he [109,105,99,114,111,46,67,104,101,99,107];have bad:ap c r=false->nN a1 c r=errV (-1) (sentV a1):=fun h=>by unfold nN;rw[h];rfl
 unfold uD at f2;unfold Hr at f3;unfold aA at f1;unfold aC at f1 f2 f3 |-;cases b1:lgB c r.active
 ·rw[bad (by unfold ap;rw[b1];rfl)];rw[b1,KZ LY]at f2;refine qf func47 call47 ntmps47 results47 ?_;have F:=iF.eq_1;repeat refine tz3 f1 f2 f6 ?_
  exact aR
 rw[b1,K0 rfl]at f2;cases b2:bY c r.mem
 ·rw[bad (by unfold ap;rw[b2,LZ];rfl)];rw[b2,KZ LY]at f3;refine qf func47 call47 ntmps47 results47 ?_;have F:=iF.eq_1;repeat refine tz4 f1 f2 f3 f6 ?_
  exact aR
 rw[b2,K0 rfl]at f3;by_cases b3:r.vars.length=c.vars.length
 case neg=>
  rw[bad (by unfold ap;rw[show (r.vars.length==c.vars.length)=false by simpa using b3,LZ];rfl)];have b4:((r.vars.length:Int) != (c.vars.length:Int))=true:=by simp;omega
  refine qf func47 call47 ntmps47 results47 ?_;have F:=ai iF.eq_1 b4;repeat refine tz4 f1 f2 f3 f6 ?_
  exact aR
 have b4:((r.vars.length:Int) != (c.vars.length:Int))=false:=by simp[b3]
 cases b5:cx r.timers
 ·rw[bad (by unfold ap;rw[b5,LZ];rfl)];rw[b5]at f4;refine qf func47 call47 ntmps47 results47 ?_;have F:=ai iF.eq_1 b4;repeat refine tz5 f1 f2 f3 f4 f6 ?_
  exact aR
 rw[b5]at f4;have f5:=GY env c r.active hl.active (JL b1);unfold aA at f5;cases b6:(r.over==j6 c r.active)
 ·rw[bad (by unfold ap;rw[b6,LZ];rfl)];refine qf func47 call47 ntmps47 results47 ?_;have F:=ai3 iF.eq_1 b4 b6;repeat refine tz6 f1 f2 f3 f4 f5 f6 ?_
  exact aR
 have hi:ap c r=kh r.vars:=by unfold ap;rw[b1,b2,b5,b6,show (r.vars.length==c.vars.length)=true by simpa using b3];rfl
 have hvl:=hl.vars;refine qf func47 call47 ntmps47 results47 ?_;have F:=ai3 iF.eq_1 b4 b6;repeat refine tz6 f1 f2 f3 f4 f5 f6 ?_
 try clear f1 f2 f3 f4 f5 b1 b2 b4 b5 b6
 refine lq r.vars.length (by omega) (fun i _=>[(52,ints34 r.vars),(53,I r.vars.length),(54,I i)]) (fun _ _=>[]) (fun i _ _=>(r.vars.take i).all aJ=true) rfl ?_ ?_
 ·rintro i vs esc hlt g1 g2 ha;obtain⟨x,hx⟩:=gE hlt;have f7:=bw env x;cases b8:aJ x
  ·rw[b8]at f7;rw[bad (by rw[hi];exact D2 hx b8)];have F:=ai4 intAV.eq_1 g1 g2 hx;repeat refine tz2 f6 f7 ?_
   exact aR
  ·rw[b8]at f7;have F:=ai4 intAV.eq_1 g1 g2 hx;repeat refine tz2 f6 f7 ?_
   exact qn (i+1) ⟨hlt,D1 ha hx b8⟩
 rintro vs esc g1 ha;rw[show nN a1 c r=nilE from by unfold nN;rw[K0 (by rw[hi];unfold kh;rwa [LP (by omega)]at ha)]];have F:=g1;repeat refine st ?_
 exact aR
theorem j8 (env:Env) (a1 a8:Addr) (he:ChEnv env a1 a8) (c:ChD) (h:Full c) (hs:Small c) (r:Rc) (hl:LiteI r) (hn: ∀t∈r.timers,t.1.length<=9223372036854775807) (hF: ∀m∈r.mem,Fits m.2.length 8):Con prog env 47 [aC c, .agg (iF r)] (nN a1 c r):=
 yZ env a1 a8 he c h hs r hl hn (ot env a1 a8 he c h hs r.mem hl.mem hF)
theorem ou (env:Env) (s:List UInt8):Con prog env 48 [Sg s,nilE] nilE:=by
 refine qf func48 call48 ntmps48 results48 ?_;repeat refine st0 ?_
 exact aR0
theorem wB (env:Env) (l:List Int) (hl:l.length<=1000000):Con prog env 54 [.agg [ints34 l,I 0,nilS]] (B (kh l)):=by
 refine qf func54 call54 ntmps54 results54 ?_;repeat refine st0 ?_
 refine lq0 l.length (by omega) (fun i vs=>[(1, .loc 1 (vs 1) 0 0),(3,I i)]) (fun _ _=>[(1,⟨3,[[ints34 l,I 0,nilS]],120,false⟩)]) (fun i _ _=>(l.take i).all aJ=true) rfl ?_ ?_
 ·rintro i vs esc hlt g1 g2 ha;obtain⟨x,hx⟩:=gE hlt;have f7:=oQ env x;cases b8:aJ x
  ·rw[b8]at f7;rw[D2 hx b8];have F:=ai4 intAV.eq_1 g1 g2 hx;repeat refine tz1 f7 ?_
   exact aR
  ·rw[b8]at f7;have F:=ai4 intAV.eq_1 g1 g2 hx;repeat refine tz1 f7 ?_
   exact qn (i+1) ⟨hlt,D1 ha hx b8⟩
 rintro vs esc g1 ha;have f7:=oQ env 0;rw[show kh l=true from by unfold kh;rwa [LP (by omega)]at ha];rw[show aJ 0=true from rfl]at f7;have F:=g1;repeat refine tz1 f7 ?_
 exact aR
theorem yQ (env:Env) (c:ChD) (h:Full c) (act:List Int) (hl:act.length<=1000000):Con prog env 50 [.agg (aA c), .seq 1 (act.map intAV)] (B (lgB c act)):=by
 have f0:=tf env c h act hl;unfold lgB;refine qf func50 call50 ntmps50 results50 ?_;have F:=aA.eq_1;repeat refine tz1 f0 ?_
 exact aR
theorem t8 (env:Env) (c:ChD) (h:Full c) (r:Rc) (hl:LiteI r) (f3:Con prog env 51 [.agg (aA c),memsAV r.mem] (B (bY c r.mem))):Con prog env 20 [.agg (aA c), .agg (iF r)] (B (ap c r)):=by
 have f2:=yQ env c h r.active hl.active;have hll:=hl.timers;unfold aA at f2 f3;cases b1:lgB c r.active
 ·rw[show ap c r=false from by unfold ap;rw[b1];rfl];rw[b1]at f2;refine qf func20 call20 ntmps20 results20 ?_;have F:=ai aA.eq_1 iF.eq_1;repeat refine tz1 f2 ?_
  exact aR
 rw[b1]at f2;cases b2:bY c r.mem
 ·rw[show ap c r=false from by unfold ap;rw[b2,LZ];rfl];rw[b2]at f3;refine qf func20 call20 ntmps20 results20 ?_;have F:=ai aA.eq_1 iF.eq_1;repeat refine tz2 f2 f3 ?_
  exact aR
 rw[b2]at f3;by_cases b3:r.vars.length=c.vars.length
 case neg=>
  rw[show ap c r=false from by unfold ap;rw[show (r.vars.length==c.vars.length)=false by simpa using b3,LZ];rfl];have b4:((r.vars.length:Int) != (c.vars.length:Int))=true:=by simp;omega
  refine qf func20 call20 ntmps20 results20 ?_;have F:=ai3 aA.eq_1 iF.eq_1 b4;repeat refine tz2 f2 f3 ?_
  exact aR
 have b4:((r.vars.length:Int) != (c.vars.length:Int))=false:=by simp[b3]
 by_cases b5:8<r.timers.length
 ·have b6:(8:Int)< (r.timers.length:Int):=by omega
  rw[show ap c r=false from by unfold ap cx;rw[Ky (show ¬r.timers.length<=8 by omega),LZ,LZ];rfl];refine qf func20 call20 ntmps20 results20 ?_;have F:=ai4 aA.eq_1 iF.eq_1 b4 b6;repeat refine tz2 f2 f3 ?_
  exact aR
 have b6: ¬(8:Int)< (r.timers.length:Int):=by omega
 have f5:=E5 env c r.active hl.active (JL b1);unfold aA at f5;cases b7:(r.over==j6 c r.active)
 ·rw[show ap c r=false from by unfold ap;rw[b7,LZ];rfl];refine qf func20 call20 ntmps20 results20 ?_;have F:=ai5 aA.eq_1 iF.eq_1 b4 b6 b7;repeat refine tz3 f2 f3 f5 ?_
  exact aR
 have hi:ap c r=(CR r.timers.length (jq r.timers)&&kh r.vars):=by
  unfold ap cx;rw[b1,b2,b7,show (r.vars.length==c.vars.length)=true by simpa using b3,LC (show r.timers.length<=8 by omega),Oj];simp
 rw[hi];refine qf func20 call20 ntmps20 results20 ?_;have F:=ai5 aA.eq_1 iF.eq_1 b4 b6 b7;repeat refine tz3 f2 f3 f5 ?_
 try clear f2 f3 f5 b1 b2 b4 b6 b7 hi
 have F:=iF.eq_1;refine lq r.timers.length (by omega) (fun i vs=>[(3, .loc 3 (vs 3) 0 0),(5,I i)]) (fun _ _=>[(3,⟨5,[iF r],31,false⟩)]) (fun i _ _=> ∀j,j<i->jq r.timers j=true) (fun j hj=>by omega) ?_ ?_
 ·rintro i vs esc hlt g1 g2 ha;obtain⟨x,hx⟩:=gE hlt;have f1:=eU env x.1;have hnot:jq r.timers i=false->(CR r.timers.length (jq r.timers)&&kh r.vars)=false:=fun h=>by rw[sN hlt h];rfl
  cases a1:bX x.1
  ·rw[hnot (by unfold jq;rw[dn hx,a1];rfl)];rw[a1]at f1;have F:=ai5 iF.eq_1 g1 g2 hx tmAV.eq_1;repeat refine tz1 f1 ?_
   exact aR
  rw[a1]at f1;by_cases a2:x.2<0
  ·rw[hnot (by unfold jq AO;rw[dn hx,Ky (by omega),LZ];rfl)];have F:=ai6 iF.eq_1 g1 g2 hx tmAV.eq_1 a2;repeat refine tz1 f1 ?_
   exact aR
  by_cases a3:1099511627776<x.2
  ·rw[hnot (by unfold jq AO;rw[dn hx,Ky (by omega),LZ];rfl)];have F:=ai7 iF.eq_1 g1 g2 hx tmAV.eq_1 a2 a3;repeat refine tz1 f1 ?_
   exact aR
  have a4:AO x.2=true:=LC ⟨by omega,by omega⟩;by_cases h0:i=0
  ·have g3: ¬(0:Int)< (i:Int):=by omega
   have F:=ai8 iF.eq_1 g1 g2 hx tmAV.eq_1 a2 a3 g3;repeat refine tz1 f1 ?_
   refine⟨i+1,⟨hlt,sM ha ?_⟩,?_,?_,by omega⟩
   ·unfold jq;rw[dn hx,a1,a4,LC h0];rfl
   ·exact qe
   ·have F:=iF.eq_1;exact qe
  have g3:(0:Int)< (i:Int):=by omega
  have g4:IntKind.i64.wrap ((i:Int)-1)=((i-1:Nat):Int):=KP i 1 (by omega) (by omega);have g5:((i-1:Nat):Int)< (r.timers.length:Int):=by omega
  obtain⟨y,hy⟩: ∃y,r.timers[i-1]? =some y:=⟨r.timers[i-1],KV (by omega)⟩;have hv:jq r.timers i= !(Op.bytesLess x.1 y.1||x.1==y.1):=by unfold jq;rw[dn hx,dn hy,a1,a4,Ky h0,o5];rfl
  by_cases hc:(Op.bytesLess x.1 y.1||x.1==y.1)=true
  ·rw[hnot (by rw[hv,hc];rfl)];have F:=ai12 iF.eq_1 g1 g2 hx tmAV.eq_1 a2 a3 g3 g4 g5 hy hc;repeat refine tz1 f1 ?_
   exact aR
  have hc:(Op.bytesLess x.1 y.1||x.1==y.1)=false:=by simpa using hc
  have F:=ai12 iF.eq_1 g1 g2 hx tmAV.eq_1 a2 a3 g3 g4 g5 hy hc;repeat refine tz1 f1 ?_
  refine⟨i+1,⟨hlt,sM ha (by rw[hv,hc];rfl)⟩,?_,?_,by omega⟩
  ·exact qe
  ·have F:=iF.eq_1;exact qe
 rintro vs esc g1 ha;have f4:=wB env r.vars hl.vars;rw[om (n:=r.timers.length) fun j hj=>ha j (by omega),LK];have F:=ai iF.eq_1 g1;repeat refine tz1 f4 ?_
 exact aR
theorem mN (env:Env) (c:ChD) (h:Full c) (r:Rc) (hl:LiteI r) (hF: ∀m∈r.mem,Fits m.2.length 8):Con prog env 20 [.agg (aA c), .agg (iF r)] (B (ap c r)):=
 t8 env c h r hl (wD env c h r.mem hl.mem hF)
end
section
open Go.RowKit
def pz (b:Bool):List AV:=[B b]
def i8 (w:WoD):List AV:=[ints34 w.vars,I w.data, .seq 1 (w.act.map pz)]
theorem uM {n:Int} (h:aJ n=true):IntKind.i64.wrap n=n:=by
 rw[cA]at h;exact ae (by omega) (by omega)
theorem sQ {n:Int} (h:Big n):IntKind.i64.wrap n=n:=by
 unfold Big at h;exact ae (by omega) (by omega)
theorem iu (env:Env) (b:Bool):Con prog env 349 [B b] (I (trI b)):=by
 cases b
 ·show Con _ _ _ _ (I 0);refine qf func349 call349 ntmps349 results349 ?_;repeat refine st0 ?_
  exact aR0
 ·show Con _ _ _ _ (I 1);refine qf func349 call349 ntmps349 results349 ?_;repeat refine st0 ?_
  exact aR0
theorem uS (env:Env) (k a:Int) (hk:k=5\/k=6) (ha:aJ a=true):Con prog env 332 [I k,I a] (.tuple [I (unI k a),B true]):=by
 have f0:=iu env (a==0);rcases hk with rfl|rfl
 ·have q1:IntKind.i64.wrap (0-a)=unI 5 a:=uM (Cn 5 ha);refine qf func332 call332 ntmps332 results332 ?_;have F:=q1;repeat refine tz1 f0 ?_
  exact aR
 ·have q1:trI (a==0)=unI 6 a:=rfl;refine qf func332 call332 ntmps332 results332 ?_;have F:=q1;repeat refine tz1 f0 ?_
  exact aR
theorem GU (env:Env) (k a b:Int) (hk:k=8\/k=9) (ha:aJ a=true):Con prog env 350 [I k,I a,I b] (.tuple [I (binI k a b).1,B (binI k a b).2]):=by
 by_cases hb:b=0
 ·subst hb;have q1:binI k a 0=(0,false):=by rcases hk with rfl|rfl<;>rfl
  rw[q1];refine qf func350 call350 ntmps350 results350 ?_;repeat refine st0 ?_
  exact aR0
 have q0:(b==0)=false:=by simpa using hb
 rcases hk with rfl|rfl
 ·have q1:binI 8 a b=(a.tdiv b,true):=by simp[binI,hb]
  have q2:=uM (uT (b:=b) ha);rw[q1];refine qf func350 call350 ntmps350 results350 ?_;have F:=ai3 q0 q2 hb;repeat refine st ?_
  exact aR
 ·have q1:binI 9 a b=(a.tmod b,true):=by simp[binI,hb]
  rw[q1];refine qf func350 call350 ntmps350 results350 ?_;have F:=ai q0 hb;repeat refine st ?_
  exact aR
theorem ye (env:Env) (k a b:Int) (hk:12<=k/\k<=17):Con prog env 351 [I k,I a,I b] (B (cmpB k a b)):=by
 obtain rfl|rfl|rfl|rfl|rfl|rfl:k=12\/k=13\/k=14\/k=15\/k=16\/k=17:=by omega
 all_goals (refine kD func351 rfl call351 (by rw [ntmps351]; simp) ?_
            rw[ntmps351,results351])
 all_goals have F:=cmpB.eq_1
 all_goals (repeat refine st ?_)
 all_goals ((refine aN ?_;show (an _ _ _).run _=some _;simp only[go_sem,F]))
theorem sI (env:Env) (k a b:Int) (hk:7<=k/\k<=19) (ha:aJ a=true) (hb:aJ b=true):Con prog env 333 [I k,I a,I b] (.tuple [I (binI k a b).1,B (binI k a b).2]):=by
 have hbig:=(xN k ha hb).1;by_cases h7:k=7
 ·subst h7;have f0:=bw env (a*b);have q1:IntKind.i64.wrap (a*b)=a*b:=sQ hbig;show Con _ _ _ _ (.tuple [I (a*b),B (aJ (a*b))]);refine qf func333 call333 ntmps333 results333 ?_;have F:=q1;repeat refine tz1 f0 ?_
  exact aR
 by_cases h8:k=8\/k=9
 ·have f0:=GU env k a b h8 ha;generalize binI k a b=R at*;rcases h8 with rfl|rfl
  ·refine qf func333 call333 ntmps333 results333 ?_;repeat refine lZ f0 ?_
   exact aR0
  ·refine qf func333 call333 ntmps333 results333 ?_;repeat refine lZ f0 ?_
   exact aR0
 by_cases h10:k=10
 ·subst h10;have f0:=bw env (a+b);have q1:IntKind.i64.wrap (a+b)=a+b:=sQ hbig;show Con _ _ _ _ (.tuple [I (a+b),B (aJ (a+b))]);refine qf func333 call333 ntmps333 results333 ?_;have F:=q1;repeat refine tz1 f0 ?_
  exact aR
 by_cases h11:k=11
 ·subst h11;have f0:=bw env (a-b);have q1:IntKind.i64.wrap (a-b)=a-b:=sQ hbig;show Con _ _ _ _ (.tuple [I (a-b),B (aJ (a-b))]);refine qf func333 call333 ntmps333 results333 ?_;have F:=q1;repeat refine tz1 f0 ?_
  exact aR
 have hT: ∀t:Bool,Con prog env 81 [I (trI t)] (B true):=fun t=>by
  have:=bw env (trI t);rwa [fY]at this
 by_cases h18:k=18
 ·subst h18;show Con _ _ _ _ (.tuple [I (trI (a != 0&&b != 0)),B true]);have f0:=iu env (a != 0&&b != 0);have f1:=hT (a != 0&&b != 0);cases h0:(a != 0)
  ·rw[h0]at f0 f1;refine qf func333 call333 ntmps333 results333 ?_;have F:=h0;repeat refine tz2 f0 f1 ?_
   exact aR
  ·rw[h0]at f0 f1;refine qf func333 call333 ntmps333 results333 ?_;have F:=h0;repeat refine tz2 f0 f1 ?_
   exact aR
 by_cases h19:k=19
 ·subst h19;show Con _ _ _ _ (.tuple [I (trI (a != 0||b != 0)),B true]);have f0:=iu env (a != 0||b != 0);have f1:=hT (a != 0||b != 0);cases h0:(a != 0)
  ·rw[h0]at f0 f1;refine qf func333 call333 ntmps333 results333 ?_;have F:=h0;repeat refine tz2 f0 f1 ?_
   exact aR
  ·rw[h0]at f0 f1;refine qf func333 call333 ntmps333 results333 ?_;have F:=h0;repeat refine tz2 f0 f1 ?_
   exact aR
 have q1:binI k a b=(trI (cmpB k a b),true):=by
  unfold binI;rw[KZ h7,KZ (by omega),KZ (by omega),KZ h10,KZ h11,KZ h18,KZ h19]
 rw[q1];have f0:=ye env k a b (by omega);have f1:=iu env (cmpB k a b);have f2:=hT (cmpB k a b);generalize cmpB k a b=R at*;obtain rfl|rfl|rfl|rfl|rfl|rfl:k=12\/k=13\/k=14\/k=15\/k=16\/k=17:=by omega
 all_goals (refine kD func333 rfl call333 (by rw [ntmps333]; simp) ?_
            rw[ntmps333,results333])
 all_goals (repeat refine Aa f0 f1 f2 ?_)
 all_goals ((refine aN ?_;show (an _ _ _).run _=some _;simp only[go_sem]))
theorem zc (env:Env) (w:WoD) (o:OpD) (hk:1<=o.kind/\o.kind<=4) (h:mQ o w.vars.length w.act.length=true):Con prog env 331 [.agg (bp o), .agg (i8 w)] (I (leafI w o)):=by
 obtain⟨k,n⟩:=o;simp only at hk;unfold leafI;unfold mQ at h;simp only at h |-;obtain rfl|rfl|rfl|rfl:k=1\/k=2\/k=3\/k=4:=by omega
 ·show Con _ _ _ _ (I n);refine qf func331 call331 ntmps331 results331 ?_;have F:=ai bp.eq_1 i8.eq_1;repeat refine st ?_
  exact aR
 ·have h:0<=n/\n<w.vars.length:=by simpa using h
  obtain⟨m,rfl⟩:=gL h.1;have q1:(m:Int)< (w.vars.length:Int):=h.2;have q2:w.vars[m]? =some (w.vars.getD m 0):=by rw[Ko,KV (by omega)];rfl
  show Con _ _ _ _ (I (w.vars.getD ((m:Int).toNat) 0));rw[Lj];refine qf func331 call331 ntmps331 results331 ?_;have F:=ai5 bp.eq_1 i8.eq_1 intAV.eq_1 q1 q2;repeat refine st ?_
  exact aR
 ·show Con _ _ _ _ (I w.data);refine qf func331 call331 ntmps331 results331 ?_;have F:=ai bp.eq_1 i8.eq_1;repeat refine st ?_
  exact aR
 ·have h:0<=n/\n<w.act.length:=by simpa using h
  obtain⟨m,rfl⟩:=gL h.1;have q1:(m:Int)< (w.act.length:Int):=h.2;have q2:w.act[m]? =some (w.act.getD m false):=by rw[Ko,KV (by omega)];rfl
  show Con _ _ _ _ (I (trI (w.act.getD ((m:Int).toNat) false)));rw[Lj];have f0:=iu env (w.act.getD m false);generalize w.act.getD m false=t at*;refine qf func331 call331 ntmps331 results331 ?_;have F:=ai5 bp.eq_1 i8.eq_1 pz.eq_1 q1 q2;repeat refine tz1 f0 ?_
  exact aR
end
section
open Go.RowKit
theorem wt {c:ChD} {act:List Int} (h:lgB c act=true): ∃l:List Nat,act=zL l/\ ∀k∈l,k<c.states.length:=by
 have h1:=(xe.1 h).1
 have hr: ∀x∈act,0<=x/\x< (c.states.length:Int):=fun x hx=>by
  obtain⟨n,hn,e⟩:=Lp hx;have:=h1 n hn;rw[rU (KW.2 ⟨hn,e⟩),KY]at this;have h2:=this.2;cases hz:inZ c x with
  |false=>rw[nS hz]at h2;cases h2
  |true=>exact aI.1 hz
 refine⟨act.map Int.toNat,?_,fun k hk=> ?_⟩
 ·unfold zL;rw[Mk];refine((MF fun x hx=> ?_).trans (List.map_id act)).symm;have:=hr x hx;show ((x.toNat:Nat):Int)=x;omega
 ·obtain⟨x,hx,rfl⟩:=K9.1 hk;have:=hr x hx;omega
def Ih (c:ChD) (l:List Nat) (k:Nat):Bool:=manyI (zL l) (kidsL c k true)==0
def lnTo (c:ChD) (l:List Nat) (j:Nat):List Nat:=(l.take j).filter (Ih c l)
def innL (c:ChD) (l:List Nat):List Nat:=sortL c (zL (lnTo c l l.length))
theorem Er {c:ChD} {l:List Nat} {j k:Nat} (h:l[j]? =some k):lnTo c l (j+1)=if Ih c l k then lnTo c l j++[k] else lnTo c l j:=by
 unfold lnTo;rw[Kv,h,LL];cases hb:Ih c l k<;>simp[hb]
theorem zX (c:ChD) (l:List Nat) (j:Nat):(lnTo c l j).length<=l.length:=by
 unfold lnTo;exact Kh (Kw ..) (by rw[Kf];omega)
theorem y7 (env:Env) (c:ChD) (h:Full c) (l:List Nat) (hl:l.length<=1000) (hk: ∀k∈l,k<c.states.length):Con prog env 151 [aC c, .seq 1 (l.map aB)] (.own 3 1 ((innL c l).map aB)):=by
 have hlen:=h.few;have f0:=jC env c (by omega) (zL l) (by rw[bg];omega);rw[eB]at f0;have f1:=fun k:Nat=>bN env c h k;have f2:=fun k:Nat=>se env c.states.length (zL l) (kidsL c k true) (by omega) (by have:=bV h.toRight k true;omega) (fun j hj=>by have:=bF h.toRight (aV hj).1;omega);have f3:=bD env c;have f4:=eu env c h.toRight (zL (lnTo c l l.length)) (by rw[bg];have:=zX c l l.length;omega);rw[eB]at f4;show Con _ _ _ _ (.own _ 1 ((sortL c (zL (lnTo c l l.length))).map aB));generalize sortL c (zL (lnTo c l l.length))=R at*;unfold aP at f3 f4;unfold aC at f0 f1 f3 |-;generalize hFL:flagA c.states.length (zL l)=FL at*;try clear hFL
 refine qf func151 call151 ntmps151 results151 ?_;repeat refine st0 ?_
 refine aZ 5 5 3 1 ?_;refine lq0 l.length (by omega) (fun j vs=>[(0, .ref 9 [tabCells c] 0 0),(1, .seq 1 (l.map aB)),(5, .row 5 (vs 5)),(8, .seq 1 (l.map aB)),(9,I l.length),(10,I j)]) (fun j _=>[(5,⟨1,(lnTo c l j).map aB,3,true⟩)]) (fun j _ esc=>esc 5=false) rfl ?_ ?_
 ·rintro j ws esc hlt q1 q2 e0;obtain⟨k,hx⟩:=gE hlt;have hkl:=hk k (K1 hx);have f1:=f1 k;rw[K0 (.inr (aW.2 hkl))]at f1;have f2:=f2 k;have hle:=zX c l j;have hf:Fits ((lnTo c l j).length+1) 8:=aG (by omega) (by omega);have hn:=Er (c:=c) hx;have hp:Ih c l k=(manyI (zL l) (kidsL c k true)==0):=rfl;cases hb:Ih c l k with
  | true=>
    rw[hb,K0 rfl]at hn;rw[hb]at hp
    have b0:(((manyI (zL l) (kidsL c k true):Nat):Int)==0)=true:=by
     have:=LW.1 hp.symm;simp;omega
    have F:=ai7 aB.eq_1 hx q1 q2 b0 hf e0;repeat refine tz3 f0 f1 f2 ?_
    refine⟨j+1,⟨hlt,by simp only[go_sem,e0]⟩,?_,?_,by omega⟩
    ·exact qe
    ·have F:=ai3 aB.eq_1 hn @Ki.{0,0};exact qe
  | false=>
    rw[hb,KZ LY]at hn;rw[hb]at hp
    have b0:(((manyI (zL l) (kidsL c k true):Nat):Int)==0)=false:=by
     have: ¬manyI (zL l) (kidsL c k true)=0:=fun q=>by rw[q]at hp;cases hp
     simp;omega
    have F:=ai6 aB.eq_1 hx q1 q2 b0 e0;repeat refine tz3 f0 f1 f2 ?_
    refine⟨j+1,⟨hlt,by simp only[go_sem,e0]⟩,?_,?_,by omega⟩
    ·exact qe
    ·have F:=ai aB.eq_1 hn;exact qe
 ·rintro ws esc q1 e0;have F:=ai q1 e0;repeat refine tz2 f3 f4 ?_
  exact aR
theorem Ec (env:Env) (a1 a8:Addr) (he:ChEnv env a1 a8) (c:ChD) (h:Full c) (hsm:Small c) (l:List Nat) (hl:l.length<=1000) (hk: ∀k∈l,k<c.states.length) (hb:lgB c (zL l)=true):Con prog env 94 [aC c, .seq 1 (l.map aB)] (.tuple [.seq 1 ((innL c l).map aB),nilE]):=by
 have f0:=cJ env a1 a8 he c h hsm (zL l) (by rw[bg];omega);unfold uD at f0;rw[K0 hb,eB]at f0;have f1:=y7 env c h l hl hk;unfold aC at f0 f1 |-;generalize innL c l=R at*;refine qf func94 call94 ntmps94 results94 ?_;repeat refine yt f0 f1 ?_
 exact aR0
end
section
open Go.RowKit
def iY (w:WoD) (g:List OpD):Option Bool:=if g=[] then some true else(pt w g).map fun n=>n != 0
def lK (c:ChD) (n:Nat):List OpD:=match c.trans[n]? with
 |some t=>t.guard
 |none=>[]
def dR (c:ChD) (n:Nat):TrD:=c.trans.getD n ⟨0,[],[],[],0⟩
theorem eP {c:ChD} {n:Nat} {t:TrD} (h:c.trans[n]? =some t):dR c n=t:=by
 unfold dR;rw[Ko,h];rfl
inductive Fd where
 |no
 |one (n:Nat)
 |bad (n:Nat)
def cW (c:ChD) (w:WoD):List Nat->Fd
 |[]=> .no
 | n::l=>match iY w (lK c n) with
   |none=> .bad n
   |some true=> .one n
   |some false=>cW c w l
def eJ (c:ChD) (w:WoD) (ev:List UInt8):List Int->Fd
 |[]=> .no
 | k::l=>match cW c w (dW c k ev c.trans.length) with
   | .no=>eJ c w ev l
   |r=>r
def dX (c:ChD) (w:WoD) (ev:List UInt8):List Nat->List Nat->Except Nat (List Nat)
 |[],o=> .ok o
 | i::l,o=>match eJ c w ev ((i:Int)::upL c i) with
   | .bad n=> .error n
   | .no=>dX c w ev l o
   | .one n=>dX c w ev l (if o.contains n then o else o++[n])
def dx (c:ChD) (act:List Int) (a b:Nat):Bool:=(leaveR c act (dR c a)).any fun i=>(leaveR c act (dR c b)).contains i
def uI (c:ChD) (act:List Int) (n k:Nat):Bool:= !dx c act k n||aboveB c (dR c k).src (dR c n).src
def takeL (c:ChD) (act:List Int) (l:List Nat) (n:Nat):List Nat:=if l.all (uI c act n) then(l.filter fun k=> !dx c act k n)++[n] else l
def H6 (c:ChD) (act:List Int) (l:List Nat):List Nat:=l.foldl (takeL c act) []
def xm (c:ChD) (act:List Int) (w:WoD) (ev:List UInt8) (inn:List Nat):Except Nat (List Nat):=match dX c w ev inn []with
 | .ok l=> .ok (H6 c act l)
 | .error n=> .error n
structure Fit (c:ChD) (act:List Int) (l:List Nat):Prop where
 real: ∀n∈l,∃t,c.trans[n]? =some t/\t.src∈act
 two:l.Pairwise fun k n=>k≠n/\dx c act k n=false
theorem Fit.nil (c:ChD) (act:List Int):Fit c act []:=⟨fun _ h=>by simp at h, .nil⟩
theorem Fit.take {c:ChD} {act:List Int} {l:List Nat} (h:Fit c act l) {n:Nat} (hn: ∃t,c.trans[n]? =some t/\t.src∈act) (hl:n∉l):Fit c act (takeL c act l n):=by
 unfold takeL;split
 ·refine⟨fun m hm=> ?_,?_⟩
  ·rcases Kt.1 hm with hm|hm
   ·exact h.real m (Kb.1 hm).1
   ·rw[Km.1 hm];exact hn
  ·refine Mx.2 ⟨h.two.sublist Lk,NT ..,fun a ha b hb=> ?_⟩;rw[Km.1 hb];obtain⟨h1,h2⟩:=Kb.1 ha;exact⟨fun e=>hl (e ▸ h1),by simpa using h2⟩
 ·exact h
theorem yx {c:ChD} {act:List Int} {l:List Nat} {n m:Nat} (h:m∈takeL c act l n):m∈l\/m=n:=by
 unfold takeL at h;split at h
 ·rcases Kt.1 h with h|h
  ·exact .inl (Kb.1 h).1
  ·exact .inr (Km.1 h)
 ·exact .inl h
theorem zr {c:ChD} {act:List Int} : ∀(l:List Nat) (o:List Nat),Fit c act o->(∀n∈l,∃t,c.trans[n]? =some t/\t.src∈act)->l.Nodup->(∀n∈l,n∉o)->Fit c act (l.foldl (takeL c act) o)
 |[],o,h,_,_,_=>h
 | n::l,o,h,hl,hn,ho=>by
   obtain⟨n1,n2⟩:=M1.1 hn;refine zr l _ (h.take (hl n (by simp)) (ho n (by simp))) (fun m hm=>hl m (by simp[hm])) n2 fun m hm hh=> ?_;rcases yx hh with e|e
   ·exact ho m (by simp[hm]) e
   ·exact n1 (e ▸ hm)
theorem zu {c:ChD} {w:WoD} {n:Nat} : ∀ {l:List Nat},cW c w l= .one n->n∈l
 |[],h=>by simp[cW]at h
 | k::l,h=>by
   unfold cW at h;split at h
   ·cases h
   ·cases h;simp
   ·exact Lq _ (zu h)
theorem xA {c:ChD} {w:WoD} {ev:List UInt8} {n:Nat} : ∀ {l:List Int},eJ c w ev l= .one n-> ∃k∈l,∃t,c.trans[n]? =some t/\t.src=k/\t.event=ev
 |[],h=>by simp[eJ]at h
 | k::l,h=>by
   unfold eJ at h;split at h
   ·obtain⟨j,hj,q⟩:=xA h;exact⟨j,Lq _ hj,q⟩
   ·rename_i r hr;have:=zu h;unfold dW at this;obtain⟨h1,h2⟩:=Kb.1 this;unfold x8 at h2;cases ht:c.trans[n]? with
    |none=>rw[ht]at h2;cases h2
    | some t=>
      rw[ht]at h2;simp only[K6]at h2;exact⟨k,by simp,t,rfl,h2.1,h2.2⟩
theorem tA {c:ChD} (h:Full c) {act:List Int} (hg:Lg c act) {w:WoD} {ev:List UInt8} : ∀(l o f:List Nat),dX c w ev l o= .ok f->(∀i∈l,(i:Int)∈act)->(∀n∈o,∃t,c.trans[n]? =some t/\t.src∈act/\t.event=ev)->o.Nodup->(∀n∈f,∃t,c.trans[n]? =some t/\t.src∈act/\t.event=ev)/\f.Nodup
 | [],o,f,e,_,ho,hn=>by
   simp only[dX,Except.ok.injEq]at e;subst e;exact⟨ho,hn⟩
 | i::l,o,f,e,hl,ho,hn=>by
   unfold dX at e;split at e
   ·cases e
   ·exact tA h hg l o f e (fun j hj=>hl j (by simp[hj])) ho hn
   ·rename_i n hf;refine tA h hg l _ f e (fun j hj=>hl j (by simp[hj])) ?_ ?_
    ·obtain⟨k,hk,t,ht,hs,hev⟩:=xA hf;have hi:=hl i (by simp);have hz:=(h.src ht).1
     have hka:t.src∈act:=by
      rw[hs]at hz |-;rcases Kk.1 hk with e|hk
      ·rw[e];exact hi
      ·exact hg.up h.toRight ((i:Int).toNat+1) i k (by omega) hi hk (aI.1 hz).1
     split
     ·exact ho
     ·intro m hm;rcases Kt.1 hm with hm|hm
      ·exact ho m hm
      ·rw[Km.1 hm];exact⟨t,ht,hka,hev⟩
    ·split
     ·exact hn
     ·rename_i hc;refine ML.2 ⟨hn,by simp,fun a ha b hb e=>hc ?_⟩;rw[Km.1 hb]at e;rw[K3, <-e];exact ha
theorem Ig {c:ChD} (h:Full c) {l:List Nat} (hk: ∀k∈l,k<c.states.length) {i:Nat} (hi:i∈innL c l):i∈l:=by
 have hs: ∀j,j∈lnTo c l l.length->j∈l:=fun j hj=>MK (Kb.1 hj).1
 have hz:(zL (lnTo c l l.length)).all (inZ c)=true:=K2.2 fun x hx=>by
  obtain⟨j,hj,rfl⟩:=K9.1 hx;exact aW.2 (hk j (hs j hj))
 unfold innL at hi;rw[zA h.toRight hz]at hi;obtain⟨j,hj,e⟩:=K9.1 hi;have:j=i:=by omega
 exact this ▸ hs j hj
theorem HB {c:ChD} (h:Full c) {act:List Int} (hg:Lg c act) {w:WoD} {ev:List UInt8} {inn f:List Nat} (hi: ∀i∈inn,(i:Int)∈act) (e:xm c act w ev inn= .ok f):Fit c act f:=by
 unfold xm at e;split at e
 ·rename_i l hl;cases e;obtain⟨h1,h2⟩:=tA h hg inn [] l hl hi (fun n hn=>by simp at hn) .nil;exact zr l [] (Fit.nil c act) (fun n hn=>by obtain⟨t,q1,q2,_⟩:=h1 n hn;exact⟨t,q1,q2⟩) h2 (fun n _ hh=>by simp at hh)
 ·cases e
end
section
open Go.RowKit
end
section
open Go.RowKit
theorem wm {c:ChD} (h:Full c) {mem:List MemD} (hm:bY c mem=true): ∀m∈mem,m.2≠[]/\m.2.length<=32:=fun m hm'=>by
 have e2:=(nq hm).2 m hm';unfold kP at e2;split at e2
 ·split at e2
  ·rw[KY,K6]at e2;exact⟨fun e=>by rw[e]at e2;simp at e2,by omega⟩
  ·unfold deepB at e2;simp only[KY]at e2;have hr:=e2.2.1.1.1;have hnd:m.2.Nodup:=j5 hr
   have hin: ∀x∈m.2,inZ c x=true:=fun x hx=>by
    have:=K2.1 e2.2.1.1.2 x hx;unfold d9 at this;rw[KY]at this;exact aU this.1
   have:=gN hnd hin;have:=h.toRight.few;refine⟨fun e=> ?_,by omega⟩;rw[e]at hr;cases hr
 ·cases e2
end
section
open Go.RowKit Go.Extern.Stop Go.Stop Go.Extern
end
section
open Go.RowKit
end
section
open Go.RowKit
end
section
open Go.RowKit
end
section
end
section
open Go.RowKit
def targetR (c:ChD) (t:TrD) (mem:List MemD):List Nat:=if t.target<0 then [] else IH c t.src t.target mem
theorem CV (env:Env) (a1 a8:Addr) (he:ChEnv env a1 a8) (c:ChD) (h:Full c) (hs:Small c) (mem:List MemD) (hl:mem.length<=1000000) (hF: ∀m∈mem,Fits m.2.length 8) (k:Nat) (t:TrD) (ht:c.trans[k]? =some t) (hb:bY c mem=true):Con prog env 269 [aC c,I k,memsAV mem] (.tuple [.seq 1 ((targetR c t mem).map aB),nilE]):=by
 have f0:=ot env a1 a8 he c h hs mem hl hF;unfold Hr at f0;rw[hb,K0 rfl]at f0;have f1:=mr env c hs k t ht;unfold targetR;unfold bi at f1;by_cases h0:t.target<0
 ·rw[K0 h0];unfold aC at f0 f1 |-;refine qw func269 call269 ntmps269 results269 ?_;have F:=h0;repeat refine tz2 f0 f1 ?_
  (refine aN ?_;refine⟨_,(by show (an _ _ _).run _=some _;simp only[go_sem,F];rfl),?_⟩)
  exact .of (.tuple (.cons (.nil 1) (.cons (.refl _) .nil))) (fun _ _ _ h=>by cases h) (fun _ _ _ h=>by cases h)
 ·rw[KZ h0]
  have htg:inZ c t.target=true:=by
   rcases (h.src ht).2 with e|e
   ·omega
   ·exact e
  have f2:=Ad env c h hs t (h.src ht).1 htg mem hl (fun m hm=>by have:=(wm h hb m hm).2;omega) hb;unfold bi at f2;unfold aC at f0 f1 f2 |-;refine qf func269 call269 ntmps269 results269 ?_;have F:=h0;repeat refine tz3 f0 f1 f2 ?_
  exact aR
end
section
open Go.RowKit
structure RunD where
 act:List Int
 vars:List Int
 mem:List MemD
 tms:List (List UInt8×Int)
 over:Bool
 outs:List Int
 rais:List (List UInt8×Int)
abbrev ErD:=Option (Nat×List Int)
def woR (c:ChD) (d:Int) (r:RunD):WoD:=⟨r.vars,d,(List.range c.states.length).map fun k:Nat=>r.act.contains (k:Int)⟩
def without (l:List (List UInt8×Int)) (s:List UInt8):List (List UInt8×Int):=l.filter fun x=> !(x.1==s)
def insT (x:List UInt8×Int):List (List UInt8×Int)->List (List UInt8×Int)
 |[]=>[x]
 |y::l=>if Op.bytesLess x.1 y.1=true then x::y::l else y::insT x l
def raiseP (r:RunD) (s:List UInt8) (v:Int):RunD×ErD:=if 16<=r.rais.length then(r,some (8,[-1])) else({ r with rais:=r.rais++[(s,v)] },none)
def startP (now:Int) (r:RunD) (s:List UInt8) (v:Int):RunD×ErD:=
 if v<0\/1099511627776-now<v then(r,some (2,[-1]))
 else if 8<=(without r.tms s).length then({ r with tms:=without r.tms s },some (8,[-1]))
 else({ r with tms:=insT (s,now+v) (without r.tms s) },none)
def IV (r:RunD) (v:Int):RunD×ErD:=if 256<=r.outs.length then(r,some (8,[-1])) else({ r with outs:=r.outs++[v] },none)
def doP (c:ChD) (d now:Int) (r:RunD) (a:ActD):RunD×ErD:=
 if a.kind=5 then({ r with tms:=without r.tms a.name },none)
 else match pt (woR c d r) a.code with
  |none=>(r,some (2,[-1, -1]))
  | some v=>if a.kind=1 then({ r with vars:=r.vars.set a.n.toNat v },none)
    else if a.kind=2 then raiseP r a.name v
    else if a.kind=4 then startP now r a.name v
    else IV r v
def allP (c:ChD) (d now:Int) (r:RunD):List ActD->RunD×ErD
 |[]=>(r,none)
 | a::l=>match doP c d now r a with
   |(r1,none)=>allP c d now r1 l
   |x=>x
def wa (c:ChD) (i:Int):List ActD:=match at_ c i with
 |some s=>s.out
 |none=>[]
def inA (c:ChD) (i:Int):List ActD:=match at_ c i with
 |some s=>s.inn
 |none=>[]
def d4 (c:ChD) (i:Int):Int:=match at_ c i with
 |some s=>s.kind
 |none=>0
def IB (c:ChD) (i:Int):List UInt8:=match at_ c i with
 |some s=>s.name
 |none=>[]
def bM (c:ChD) (d now:Int) (r:RunD):List Int->RunD×ErD
 |[]=>(r,none)
 | i::l=>match allP c d now r (wa c i) with
   |(r1,none)=>bM c d now { r1 with act:=r1.act.filter fun k=> !(k==i) } l
   |x=>x
def eo (c:ChD) (d now:Int) (r:RunD):List Nat->RunD×ErD
 |[]=>(r,none)
 | n::l=>match allP c d now r (dR c n).acts with
   |(r1,none)=>eo c d now r1 l
   |x=>x
def aj (c:ChD) (d now:Int) (r:RunD) (f:List Int):List Int->(RunD×ErD)×List Int
 |[]=>((r,none),f)
 | i::l=>if r.act.contains i=true then aj c d now r f l
   else match allP c d now { r with act:=bS (r.act++[i]) } (inA c i) with
    |(r1,none)=>aj c d now r1 (if d4 c i=3 then f++[i] else f) l
    |x=>(x,[])
def qO (c:ChD) (i:Int):List UInt8:=[100,111,110,101,46]++IB c i
def ei (c:ChD) (r:RunD) (o:List Int):List Int->(RunD×ErD)×List Int
 |[]=>((r,none),o)
 | i::l=>if aO c i<0 then ei c { r with over:=true } o l
   else match raiseP r (qO c (aO c i)) 0 with
    |(r1,none)=>ei c r1 (if 0<=aO c (aO c i)/\d4 c (aO c (aO c i))=2 then o++[aO c (aO c i)] else o) l
    |x=>(x,[])
def uL (c:ChD) (act:List Int):Nat->Int->Bool
 |0,_=>false
 | f+1,i=>if d4 c i=3 then true
   else if d4 c i=1 then(match (kidZ c i).find? fun k=>act.contains k with
    |some k=>d4 c k==3
    |none=>false)
   else(kidZ c i).all fun k=>uL c act f k
def Bt (c:ChD) (act:List Int) (i:Int):Bool:=act.contains i&&uL c act 40 i
def gY (c:ChD) (r:RunD):List Int->RunD×ErD
 |[]=>(r,none)
 | g::l=>if Bt c r.act g=true then(match raiseP r (qO c g) 0 with
    |(r1,none)=>gY c r1 l
    |x=>x)
   else gY c r l
def finishP (c:ChD) (r:RunD) (f:List Int):RunD×ErD:=match ei c r [] f with
 |((r1,none),o)=>gY c r1 (zL (sortL c o))
 |(x,_)=>x
def enterP (c:ChD) (d now:Int) (r:RunD) (l:List Int):RunD×ErD:=match aj c d now r [] l with
 |((r1,none),f)=>finishP c r1 f
 |(x,_)=>x
def goneR (c:ChD) (act:List Int) (ts:List Nat):List Int:=ts.flatMap fun n=>leaveR c act (dR c n)
def toR (c:ChD) (mem:List MemD) (ts:List Nat):List Nat:=ts.flatMap fun n=>targetR c (dR c n) mem
def stepP (c:ChD) (d now:Int) (r:RunD) (ts:List Nat):RunD×ErD:=
 let gone:=sortL c (goneR c r.act ts)
 let mem:=remL c r.act (zL gone) r.mem
 match bM c d now { r with mem:=mem } (zL gone).reverse with
 |(r1,none)=>match eo c d now r1 ts with
   |(r2,none)=>enterP c d now r2 (zL (sortL c (zL (toR c mem ts))))
   |x=>x
 |x=>x
def cq (c:ChD) (now:Int):RunD×ErD:=enterP c 0 now ⟨[],c.vars.map (·.start),[],[],false,[],[]⟩ (zL (tbegL c (-1)))
end

end Go.Proofs.YtbjldjekgepopaaGreatDoor