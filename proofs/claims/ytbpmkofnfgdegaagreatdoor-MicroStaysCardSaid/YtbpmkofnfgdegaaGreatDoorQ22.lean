/- What actions make of an instance, plain. No program is named here. -/
import Derived.Test.YtbpmkofnfgdegaaGreatDoorQ14
import Derived.Test.YtbpmkofnfgdegaaGreatDoorQ8
import Derived.Test.YtbpmkofnfgdegaaGreatDoorQ6
import Derived.Test.YtbpmkofnfgdegaaGreatDoorQ17
import Derived.Test.YtbpmkofnfgdegaaGreatDoorQ21
import Derived.Test.YtbpmkofnfgdegaaGreatDoorQ16
import Derived.Test.YtbpmkofnfgdegaaGreatDoorQ7
import Derived.Test.YtbpmkofnfgdegaaGreatDoorQ19
import Derived.Test.YtbpmkofnfgdegaaGreatDoorQ11
import Derived.Test.YtbpmkofnfgdegaaGreatDoorQ20
set_option maxRecDepth 100000
set_option maxHeartbeats 16000000
set_option linter.unusedSimpArgs false
namespace Go.Proofs.YtbpmkofnfgdegaaGreatDoor
open Go.Proofs.Tryz
section
open Go.RowKit
def zde (c:ChD) (x:Int):Bool:=match c.states[x.toNat]? with
 |some s=>decide (s.parent<0)&&(s.kind==3)
 |none=>false
def zfj (c:ChD) (act:List Int):Bool:=act.any (zde c)
theorem zoU {c:ChD} {act:List Int} {i:Nat} {x:Int} (ha:(act.take i).any (zde c)=false) (hx:act[i]? =some x) (h:zde c x=false):(act.take (i+1)).any (zde c)=false:=by
 rw[List.take_add_one,hx,List.any_append,ha];simp[h]
theorem ztr {c:ChD} {act:List Int} {i:Nat} {x:Int} (hx:act[i]? =some x) (h:zde c x=true):zfj c act=true:=List.any_eq_true.2 ⟨x,List.mem_of_getElem? hx,h⟩
theorem zt6 (env:Env) (c:ChD) (act:List Int) (hl:act.length<=1000000) (hr: ∀x∈act,0<=x/\x<c.states.length):Con prog env 128 [.agg (chAV c),ints34 act] (B (zfj c act)):=by
 refine qf func128 call128 ntmps128 results128 ?_;have F:=chAV.eq_1;repeat refine st ?_
 refine zab (D:=Nat) (fun i vs=>[(2, .loc 2 (vs 2) 0 0),(7,ints34 act),(8,I act.length),(9,I i)]) (fun _ _=>[(2,⟨5,[chAV c],26,false⟩)]) (fun i _ _=>i<=act.length/\(act.take i).any (zde c)=false) (fun i=>act.length-i) 0 ?_ ?_ ?_ ?_
 ·exact⟨Nat.zero_le _,rfl⟩
 ·exact qe
 ·have F:=chAV.eq_1;exact qe
 rintro i vs esc ⟨hi,ha⟩;by_cases hlt:i<act.length
 ·have g1:=nlt hlt;have g2:=zaa hlt (by omega);obtain⟨x,hx⟩:=gE hlt;obtain⟨h0,h1⟩:=hr x (List.mem_of_getElem? hx);obtain⟨k,rfl⟩:=Int.eq_ofNat_of_zero_le h0;have hk:k<c.states.length:=by omega
  obtain⟨s,hs⟩:=gE hk;have g3:=nlt hk;have ht:zde c k=(decide (s.parent<0)&&(s.kind==3)):=by unfold zde;rw[Int.toNat_natCast,hs]
  by_cases b1:s.parent<0
  ·by_cases b2:s.kind=3
   ·rw[ztr hx (by rw[ht,decide_eq_true b1,b2];rfl)];have F:=ai10 chAV.eq_1 stAV.eq_1 intAV.eq_1 g1 g2 g3 hx hs b1 b2;repeat refine st ?_
    exact aR
   ·have b3:(s.kind==3)=false:=by simpa using b2
    have F:=ai10 chAV.eq_1 stAV.eq_1 intAV.eq_1 g1 g2 g3 hx hs b1 b3;repeat refine st ?_
    refine⟨i+1,⟨hlt,zoU ha hx (by rw[ht,b3,Bool.and_false])⟩,?_,?_,by omega⟩
    ·exact qe
    ·have F:=chAV.eq_1;exact qe
  ·have F:=ai9 chAV.eq_1 stAV.eq_1 intAV.eq_1 g1 g2 g3 hx hs b1;repeat refine st ?_
   refine⟨i+1,⟨hlt,zoU ha hx (by rw[ht,decide_eq_false b1,Bool.false_and])⟩,?_,?_,by omega⟩
   ·exact qe
   ·have F:=chAV.eq_1;exact qe
 have g1: ¬(i:Int)< (act.length:Int):=by omega
 rw[show zfj c act=false from by rwa [List.take_of_length_le (by omega)]at ha];have F:=g1;repeat refine st ?_
 exact aR
theorem zrf (env:Env) (c:ChD) (act:List Int) (hl:act.length<=1000000) (hr: ∀x∈act,0<=x/\x<c.states.length):Con prog env 54 [.agg (chAV c),ints34 act] (B (zfj c act)):=by
 refine qf func54 call54 ntmps54 results54 ?_;have F:=chAV.eq_1;repeat refine st ?_
 refine zab (D:=Nat) (fun i vs=>[(1,ints34 act),(2, .loc 2 (vs 2) 0 0),(5,I i)]) (fun _ _=>[(2,⟨5,[chAV c],26,false⟩)]) (fun i _ _=>i<=act.length/\(act.take i).any (zde c)=false) (fun i=>act.length-i) 0 ?_ ?_ ?_ ?_
 ·exact⟨Nat.zero_le _,rfl⟩
 ·exact qe
 ·have F:=chAV.eq_1;exact qe
 rintro i vs esc ⟨hi,ha⟩;by_cases hlt:i<act.length
 ·have g1:=nlt hlt;have g2:=zaa hlt (by omega);obtain⟨x,hx⟩:=gE hlt;obtain⟨h0,h1⟩:=hr x (List.mem_of_getElem? hx);obtain⟨k,rfl⟩:=Int.eq_ofNat_of_zero_le h0;have hk:k<c.states.length:=by omega
  obtain⟨s,hs⟩:=gE hk;have g3:=nlt hk;have ht:zde c k=(decide (s.parent<0)&&(s.kind==3)):=by unfold zde;rw[Int.toNat_natCast,hs]
  by_cases b1:s.parent<0
  ·by_cases b2:s.kind=3
   ·rw[ztr hx (by rw[ht,decide_eq_true b1,b2];rfl)];have F:=ai10 chAV.eq_1 stAV.eq_1 intAV.eq_1 g1 g2 g3 hx hs b1 b2;repeat refine st ?_
    exact aR
   ·have b3:(s.kind==3)=false:=by simpa using b2
    have F:=ai10 chAV.eq_1 stAV.eq_1 intAV.eq_1 g1 g2 g3 hx hs b1 b3;repeat refine st ?_
    refine⟨i+1,⟨hlt,zoU ha hx (by rw[ht,b3,Bool.and_false])⟩,?_,?_,by omega⟩
    ·exact qe
    ·have F:=chAV.eq_1;exact qe
  ·have F:=ai9 chAV.eq_1 stAV.eq_1 intAV.eq_1 g1 g2 g3 hx hs b1;repeat refine st ?_
   refine⟨i+1,⟨hlt,zoU ha hx (by rw[ht,decide_eq_false b1,Bool.false_and])⟩,?_,?_,by omega⟩
   ·exact qe
   ·have F:=chAV.eq_1;exact qe
 have g1: ¬(i:Int)< (act.length:Int):=by omega
 rw[show zfj c act=false from by rwa [List.take_of_length_le (by omega)]at ha];have F:=g1;repeat refine st ?_
 exact aR
theorem zuc (env:Env) (l:List (List UInt8×Int)) (hl:l.length<=9223372036854775807) (hn: ∀t∈l,t.1.length<=9223372036854775807):Con prog env 127 [.seq 2 (l.map tmAV)] (B (zbS l)):=by
 refine qf func127 call127 ntmps127 results127 ?_;repeat refine st0 ?_
 refine zab (D:=Nat) (fun i _=>[(0, .seq 2 (l.map tmAV)),(5, .seq 2 (l.map tmAV)),(6,I l.length),(7,I i)]) (fun _ _=>[]) (fun i _ _=>i<=l.length/\ ∀j,j<i->tmAt l j=true) (fun i=>l.length-i) 0 ?_ ?_ ?_ ?_
 ·exact⟨Nat.zero_le _,fun j hj=>by omega⟩
 ·exact qe0
 ·exact qe0
 rintro i vs esc ⟨hi,ha⟩;by_cases hlt:i<l.length
 ·have g1:=nlt hlt;have g2:=zaa hlt (by omega);obtain⟨x,hx⟩:=gE hlt;have f1:=zb2 env x.1 (hn x (zwB hx));have hnot:tmAt l i=false->zbS l=false:=fun h=>by rw[zbS,zi6 hlt h];rfl
  cases a1:zbi x.1
  ·rw[hnot (by unfold tmAt;rw[zcn hx,a1];rfl)];rw[a1]at f1;have F:=ai4 g1 g2 hx tmAV.eq_1;repeat refine tz1 f1 ?_
   exact aR
  rw[a1]at f1;by_cases a2:x.2<0
  ·rw[hnot (by unfold tmAt clkB;rw[zcn hx,decide_eq_false (by omega),Bool.and_false];rfl)];have F:=ai5 g1 g2 hx tmAV.eq_1 a2;repeat refine tz1 f1 ?_
   exact aR
  by_cases a3:1099511627776<x.2
  ·rw[hnot (by unfold tmAt clkB;rw[zcn hx,decide_eq_false (by omega),Bool.and_false];rfl)];have F:=ai6 g1 g2 hx tmAV.eq_1 a2 a3;repeat refine tz1 f1 ?_
   exact aR
  have a4:clkB x.2=true:=decide_eq_true ⟨by omega,by omega⟩;by_cases h0:i=0
  ·have g3: ¬(0:Int)< (i:Int):=by omega
   have F:=ai7 g1 g2 hx tmAV.eq_1 a2 a3 g3;repeat refine tz1 f1 ?_
   refine⟨i+1,⟨hlt,zkm ha ?_⟩,?_,?_,by omega⟩
   ·unfold tmAt;rw[zcn hx,a1,a4,decide_eq_true h0];rfl
   ·exact qe
   ·exact qe
  have g3:(0:Int)< (i:Int):=by omega
  have g4:IntKind.i64.wrap ((i:Int)-1)=((i-1:Nat):Int):=i64m i 1 (by omega) (by omega);have g5:((i-1:Nat):Int)< (l.length:Int):=by omega
  obtain⟨y,hy⟩: ∃y,l[i-1]? =some y:=⟨l[i-1],List.getElem?_eq_getElem (by omega)⟩;have hv:tmAt l i= !(Op.bytesLess x.1 y.1||x.1==y.1):=by unfold tmAt;rw[zcn hx,zcn hy,a1,a4,decide_eq_false h0,zhu];rfl
  by_cases hc:(Op.bytesLess x.1 y.1||x.1==y.1)=true
  ·rw[hnot (by rw[hv,hc];rfl)];have F:=ai11 g1 g2 hx tmAV.eq_1 a2 a3 g3 g4 g5 hy hc;repeat refine tz1 f1 ?_
   exact aR
  have hc:(Op.bytesLess x.1 y.1||x.1==y.1)=false:=by simpa using hc
  have F:=ai11 g1 g2 hx tmAV.eq_1 a2 a3 g3 g4 g5 hy hc;repeat refine tz1 f1 ?_
  refine⟨i+1,⟨hlt,zkm ha (by rw[hv,hc];rfl)⟩,?_,?_,by omega⟩
  ·exact qe
  ·exact qe
 have g1: ¬(i:Int)< (l.length:Int):=by omega
 have e:zbS l=decide ((l.length:Int)<=8):=by
  rw[zbS,zh5 (n:=l.length) fun j hj=>ha j (by omega),Bool.true_and];exact decide_eq_decide.2 (by omega)
 rw[e];have F:=g1;repeat refine st ?_
 exact aR
theorem zrF (env:Env) (a1 a8:Addr) (he:ChEnv env a1 a8) (s:List UInt8):Con prog env 34 [Sg s] (errV (-1) (sentV a1)):=by
 have h1:=zfW he.e1;have f1:=zbA env s a1;refine qf func34 call34 ntmps34 results34 ?_;have F:=h1;repeat refine tz1 f1 ?_
 exact aR
structure LiteI (r:Rc):Prop where
 active:r.active.length<=1000000
 vars:r.vars.length<=1000000
 mem:r.mem.length<=1000000
 timers:r.timers.length<=9223372036854775807
def zgw (l:List Int):Bool:=l.all zai
def za6 (c:ChD) (r:Rc):Bool:=lgB c r.active&&zbd c r.mem&&(r.vars.length==c.vars.length)&&zbS r.timers&&(r.over==zfj c r.active)&&zgw r.vars
def zmW (a1:Addr) (c:ChD) (r:Rc):AV:=if za6 c r=true then nilE else errV (-1) (sentV a1)
theorem zwE {c:ChD} {act:List Int} (h:lgB c act=true): ∀x∈act,0<=x/\x<c.states.length:=fun x hx=>by
 obtain⟨i,hi⟩:=List.mem_iff_getElem?.1 hx;have h1:=(zob.1 h).1 i (List.getElem?_eq_some_iff.1 hi).1;rw[zjL hi,Bool.and_eq_true]at h1;have h2:=h1.2;unfold fitI at_ at h2;by_cases h0:0<=x
 ·rw[if_pos h0]at h2;cases hs:c.states[x.toNat]? with
  |none=>rw[hs]at h2;cases h2
  |some s=>have:=(List.getElem?_eq_some_iff.1 hs).1;omega
 ·rw[if_neg h0]at h2;cases h2
end
section
open Go.RowKit
theorem zst {l:List Int} {i:Nat} {x:Int} (ha:(l.take i).all zai=true) (hx:l[i]? =some x) (h:zai x=true):(l.take (i+1)).all zai=true:=by
 rw[List.take_add_one,hx,List.all_append,ha];simp[h]
theorem zsu {l:List Int} {i:Nat} {x:Int} (hx:l[i]? =some x) (h:zai x=false):zgw l=false:=by
 unfold zgw;rw[List.all_eq_false];exact⟨x,List.mem_of_getElem? hx,by rw[h];exact Bool.false_ne_true⟩
theorem zmT (env:Env) (a1 a8:Addr) (he:ChEnv env a1 a8) (c:ChD) (h:Full c) (hs:Small c) (r:Rc) (hl:LiteI r) (hn: ∀t∈r.timers,t.1.length<=9223372036854775807) (f3:Con prog env 126 [zah c,memsAV r.mem] (chkM a1 c r.mem)):Con prog env 68 [zah c, .agg (inAV r)] (zmW a1 c r):=by
 have f1:=zas env c hs;have f2:=zbg env a1 a8 he c h hs r.active hl.active;have f4:=zuc env r.timers hl.timers hn;have f6:=zrF env a1 a8 he [109,105,99,114,111,46,67,104,101,99,107];have bad:za6 c r=false->zmW a1 c r=errV (-1) (sentV a1):=fun h=>by unfold zmW;rw[h];rfl
 unfold chkE at f2;unfold chkM at f3;unfold chAV at f1;unfold zah at f1 f2 f3 |-;cases b1:lgB c r.active
 ·rw[bad (by unfold za6;rw[b1];rfl)];rw[b1,if_neg Bool.false_ne_true]at f2;refine qf func68 call68 ntmps68 results68 ?_;have F:=inAV.eq_1;repeat refine tz3 f1 f2 f6 ?_
  exact aR
 rw[b1,if_pos rfl]at f2;cases b2:zbd c r.mem
 ·rw[bad (by unfold za6;rw[b2,Bool.and_false];rfl)];rw[b2,if_neg Bool.false_ne_true]at f3;refine qf func68 call68 ntmps68 results68 ?_;have F:=inAV.eq_1;repeat refine tz4 f1 f2 f3 f6 ?_
  exact aR
 rw[b2,if_pos rfl]at f3;by_cases b3:r.vars.length=c.vars.length
 case neg=>
  rw[bad (by unfold za6;rw[show (r.vars.length==c.vars.length)=false by simpa using b3,Bool.and_false];rfl)];have b4:((r.vars.length:Int) != (c.vars.length:Int))=true:=by simp;omega
  refine qf func68 call68 ntmps68 results68 ?_;have F:=ai inAV.eq_1 b4;repeat refine tz4 f1 f2 f3 f6 ?_
  exact aR
 have b4:((r.vars.length:Int) != (c.vars.length:Int))=false:=by simp[b3]
 cases b5:zbS r.timers
 ·rw[bad (by unfold za6;rw[b5,Bool.and_false];rfl)];rw[b5]at f4;refine qf func68 call68 ntmps68 results68 ?_;have F:=ai inAV.eq_1 b4;repeat refine tz5 f1 f2 f3 f4 f6 ?_
  exact aR
 rw[b5]at f4;have f5:=zt6 env c r.active hl.active (zwE b1);unfold chAV at f5;cases b6:(r.over==zfj c r.active)
 ·rw[bad (by unfold za6;rw[b6,Bool.and_false];rfl)];refine qf func68 call68 ntmps68 results68 ?_;have F:=ai3 inAV.eq_1 b4 b6;repeat refine tz6 f1 f2 f3 f4 f5 f6 ?_
  exact aR
 have hi:za6 c r=zgw r.vars:=by unfold za6;rw[b1,b2,b5,b6,show (r.vars.length==c.vars.length)=true by simpa using b3];rfl
 have hvl:=hl.vars;refine qf func68 call68 ntmps68 results68 ?_;have F:=ai3 inAV.eq_1 b4 b6;repeat refine tz6 f1 f2 f3 f4 f5 f6 ?_
 try clear f1 f2 f3 f4 f5 b1 b2 b4 b5 b6
 refine zab (D:=Nat) (fun i _=>[(52,ints34 r.vars),(53,I r.vars.length),(54,I i)]) (fun _ _=>[]) (fun i _ _=>i<=r.vars.length/\(r.vars.take i).all zai=true) (fun i=>r.vars.length-i) 0 ?_ ?_ ?_ ?_
 ·exact⟨Nat.zero_le _,rfl⟩
 ·exact qe
 ·exact qe
 rintro i vs esc ⟨hi2,ha⟩;by_cases hlt:i<r.vars.length
 ·have g1:=nlt hlt;have g2:=zaa hlt (by omega);obtain⟨x,hx⟩:=gE hlt;have f7:=zbR env x;cases b8:zai x
  ·rw[b8]at f7;rw[bad (by rw[hi];exact zsu hx b8)];have F:=ai4 intAV.eq_1 g1 g2 hx;repeat refine tz2 f6 f7 ?_
   exact aR
  ·rw[b8]at f7;have F:=ai4 intAV.eq_1 g1 g2 hx;repeat refine tz2 f6 f7 ?_
   refine⟨i+1,⟨hlt,zst ha hx b8⟩,?_,?_,by omega⟩
   ·exact qe
   ·exact qe
 have g1: ¬(i:Int)< (r.vars.length:Int):=by omega
 rw[show zmW a1 c r=nilE from by unfold zmW;rw[if_pos (by rw[hi];unfold zgw;rwa [List.take_of_length_le (by omega)]at ha)]];have F:=g1;repeat refine st ?_
 exact aR
theorem zpG (env:Env) (a1 a8:Addr) (he:ChEnv env a1 a8) (c:ChD) (h:Full c) (hs:Small c) (r:Rc) (hl:LiteI r) (hn: ∀t∈r.timers,t.1.length<=9223372036854775807) (hF: ∀m∈r.mem,Fits m.2.length 8):Con prog env 68 [zah c, .agg (inAV r)] (zmW a1 c r):=
 zmT env a1 a8 he c h hs r hl hn (zib env a1 a8 he c h hs r.mem hl.mem hF)
theorem zl7 (env:Env) (s:List UInt8):Con prog env 36 [Sg s,nilE] nilE:=by
 refine qf func36 call36 ntmps36 results36 ?_;repeat refine st0 ?_
 exact aR0
theorem zkS (env:Env) (l:List Int) (hl:l.length<=1000000):Con prog env 56 [.agg [ints34 l,I 0,nilS]] (B (zgw l)):=by
 refine qf func56 call56 ntmps56 results56 ?_;repeat refine st0 ?_
 refine zab (D:=Nat) (fun i vs=>[(1, .loc 1 (vs 1) 0 0),(3,I i)]) (fun _ _=>[(1,⟨3,[[ints34 l,I 0,nilS]],107,false⟩)]) (fun i _ _=>i<=l.length/\(l.take i).all zai=true) (fun i=>l.length-i) 0 ?_ ?_ ?_ ?_
 ·exact⟨Nat.zero_le _,rfl⟩
 ·exact qe0
 ·exact qe0
 rintro i vs esc ⟨hi,ha⟩;by_cases hlt:i<l.length
 ·have g1:=nlt hlt;have g2:=zaa hlt (by omega);obtain⟨x,hx⟩:=gE hlt;have f7:=zfh env x;cases b8:zai x
  ·rw[b8]at f7;rw[zsu hx b8];have F:=ai4 intAV.eq_1 g1 g2 hx;repeat refine tz1 f7 ?_
   exact aR
  ·rw[b8]at f7;have F:=ai4 intAV.eq_1 g1 g2 hx;repeat refine tz1 f7 ?_
   refine⟨i+1,⟨hlt,zst ha hx b8⟩,?_,?_,by omega⟩
   ·exact qe
   ·exact qe
 have g1: ¬(i:Int)< (l.length:Int):=by omega
 have f7:=zfh env 0;rw[show zgw l=true from by unfold zgw;rwa [List.take_of_length_le (by omega)]at ha];rw[show zai 0=true from rfl]at f7;have F:=g1;repeat refine tz1 f7 ?_
 exact aR
theorem zhi (env:Env) (c:ChD) (h:Full c) (act:List Int) (hl:act.length<=1000000):Con prog env 16 [.agg (chAV c), .seq 1 (act.map intAV)] (B (lgB c act)):=by
 have f0:=zjx env c h act hl;unfold lgB;refine qf func16 call16 ntmps16 results16 ?_;have F:=chAV.eq_1;repeat refine tz1 f0 ?_
 exact aR
theorem zju (env:Env) (c:ChD) (h:Full c) (r:Rc) (hl:LiteI r) (f3:Con prog env 53 [.agg (chAV c),memsAV r.mem] (B (zbd c r.mem))):Con prog env 19 [.agg (chAV c), .agg (inAV r)] (B (za6 c r)):=by
 have f2:=zhi env c h r.active hl.active;have hll:=hl.timers;unfold chAV at f2 f3;cases b1:lgB c r.active
 ·rw[show za6 c r=false from by unfold za6;rw[b1];rfl];rw[b1]at f2;refine qf func19 call19 ntmps19 results19 ?_;have F:=ai chAV.eq_1 inAV.eq_1;repeat refine tz1 f2 ?_
  exact aR
 rw[b1]at f2;cases b2:zbd c r.mem
 ·rw[show za6 c r=false from by unfold za6;rw[b2,Bool.and_false];rfl];rw[b2]at f3;refine qf func19 call19 ntmps19 results19 ?_;have F:=ai chAV.eq_1 inAV.eq_1;repeat refine tz2 f2 f3 ?_
  exact aR
 rw[b2]at f3;by_cases b3:r.vars.length=c.vars.length
 case neg=>
  rw[show za6 c r=false from by unfold za6;rw[show (r.vars.length==c.vars.length)=false by simpa using b3,Bool.and_false];rfl];have b4:((r.vars.length:Int) != (c.vars.length:Int))=true:=by simp;omega
  refine qf func19 call19 ntmps19 results19 ?_;have F:=ai3 chAV.eq_1 inAV.eq_1 b4;repeat refine tz2 f2 f3 ?_
  exact aR
 have b4:((r.vars.length:Int) != (c.vars.length:Int))=false:=by simp[b3]
 by_cases b5:8<r.timers.length
 ·have b6:(8:Int)< (r.timers.length:Int):=by omega
  rw[show za6 c r=false from by unfold za6 zbS;rw[decide_eq_false (show ¬r.timers.length<=8 by omega),Bool.and_false,Bool.and_false];rfl];refine qf func19 call19 ntmps19 results19 ?_;have F:=ai4 chAV.eq_1 inAV.eq_1 b4 b6;repeat refine tz2 f2 f3 ?_
  exact aR
 have b6: ¬(8:Int)< (r.timers.length:Int):=by omega
 have f5:=zrf env c r.active hl.active (zwE b1);unfold chAV at f5;cases b7:(r.over==zfj c r.active)
 ·rw[show za6 c r=false from by unfold za6;rw[b7,Bool.and_false];rfl];refine qf func19 call19 ntmps19 results19 ?_;have F:=ai5 chAV.eq_1 inAV.eq_1 b4 b6 b7;repeat refine tz3 f2 f3 f5 ?_
  exact aR
 have hi:za6 c r=(allB r.timers.length (tmAt r.timers)&&zgw r.vars):=by
  unfold za6 zbS;rw[b1,b2,b7,show (r.vars.length==c.vars.length)=true by simpa using b3,decide_eq_true (show r.timers.length<=8 by omega),Bool.and_true];simp
 rw[hi];refine qf func19 call19 ntmps19 results19 ?_;have F:=ai5 chAV.eq_1 inAV.eq_1 b4 b6 b7;repeat refine tz3 f2 f3 f5 ?_
 try clear f2 f3 f5 b1 b2 b4 b6 b7 hi
 have F:=inAV.eq_1;refine zab (D:=Nat) (fun i vs=>[(3, .loc 3 (vs 3) 0 0),(5,I i)]) (fun _ _=>[(3,⟨5,[inAV r],31,false⟩)]) (fun i _ _=>i<=r.timers.length/\ ∀j,j<i->tmAt r.timers j=true) (fun i=>r.timers.length-i) 0 ?_ ?_ ?_ ?_
 ·exact⟨Nat.zero_le _,fun j hj=>by omega⟩
 ·exact qe
 ·exact qe
 rintro i vs esc ⟨hi,ha⟩;by_cases hlt:i<r.timers.length
 ·have g1:=nlt hlt;have g2:=zaa hlt (by omega);obtain⟨x,hx⟩:=gE hlt;have f1:=zcB env x.1;have hnot:tmAt r.timers i=false->(allB r.timers.length (tmAt r.timers)&&zgw r.vars)=false:=fun h=>by rw[zi6 hlt h];rfl
  cases a1:zbi x.1
  ·rw[hnot (by unfold tmAt;rw[zcn hx,a1];rfl)];rw[a1]at f1;have F:=ai5 inAV.eq_1 g1 g2 hx tmAV.eq_1;repeat refine tz1 f1 ?_
   exact aR
  rw[a1]at f1;by_cases a2:x.2<0
  ·rw[hnot (by unfold tmAt clkB;rw[zcn hx,decide_eq_false (by omega),Bool.and_false];rfl)];have F:=ai6 inAV.eq_1 g1 g2 hx tmAV.eq_1 a2;repeat refine tz1 f1 ?_
   exact aR
  by_cases a3:1099511627776<x.2
  ·rw[hnot (by unfold tmAt clkB;rw[zcn hx,decide_eq_false (by omega),Bool.and_false];rfl)];have F:=ai7 inAV.eq_1 g1 g2 hx tmAV.eq_1 a2 a3;repeat refine tz1 f1 ?_
   exact aR
  have a4:clkB x.2=true:=decide_eq_true ⟨by omega,by omega⟩;by_cases h0:i=0
  ·have g3: ¬(0:Int)< (i:Int):=by omega
   have F:=ai8 inAV.eq_1 g1 g2 hx tmAV.eq_1 a2 a3 g3;repeat refine tz1 f1 ?_
   refine⟨i+1,⟨hlt,zkm ha ?_⟩,?_,?_,by omega⟩
   ·unfold tmAt;rw[zcn hx,a1,a4,decide_eq_true h0];rfl
   ·exact qe
   ·have F:=inAV.eq_1;exact qe
  have g3:(0:Int)< (i:Int):=by omega
  have g4:IntKind.i64.wrap ((i:Int)-1)=((i-1:Nat):Int):=i64m i 1 (by omega) (by omega);have g5:((i-1:Nat):Int)< (r.timers.length:Int):=by omega
  obtain⟨y,hy⟩: ∃y,r.timers[i-1]? =some y:=⟨r.timers[i-1],List.getElem?_eq_getElem (by omega)⟩;have hv:tmAt r.timers i= !(Op.bytesLess x.1 y.1||x.1==y.1):=by unfold tmAt;rw[zcn hx,zcn hy,a1,a4,decide_eq_false h0,zhu];rfl
  by_cases hc:(Op.bytesLess x.1 y.1||x.1==y.1)=true
  ·rw[hnot (by rw[hv,hc];rfl)];have F:=ai12 inAV.eq_1 g1 g2 hx tmAV.eq_1 a2 a3 g3 g4 g5 hy hc;repeat refine tz1 f1 ?_
   exact aR
  have hc:(Op.bytesLess x.1 y.1||x.1==y.1)=false:=by simpa using hc
  have F:=ai12 inAV.eq_1 g1 g2 hx tmAV.eq_1 a2 a3 g3 g4 g5 hy hc;repeat refine tz1 f1 ?_
  refine⟨i+1,⟨hlt,zkm ha (by rw[hv,hc];rfl)⟩,?_,?_,by omega⟩
  ·exact qe
  ·have F:=inAV.eq_1;exact qe
 have g1: ¬(i:Int)< (r.timers.length:Int):=by omega
 have f4:=zkS env r.vars hl.vars;rw[zh5 (n:=r.timers.length) fun j hj=>ha j (by omega),Bool.true_and];have F:=ai inAV.eq_1 g1;repeat refine tz1 f4 ?_
 exact aR
theorem zkR (env:Env) (c:ChD) (h:Full c) (r:Rc) (hl:LiteI r) (hF: ∀m∈r.mem,Fits m.2.length 8):Con prog env 19 [.agg (chAV c), .agg (inAV r)] (B (za6 c r)):=
 zju env c h r hl (zkV env c h r.mem hl.mem hF)
end
section
open Go.RowKit
def zkg (b:Bool):List AV:=[B b]
def woAV (w:WoD):List AV:=[ints34 w.vars,I w.data, .seq 1 (w.act.map zkg)]
theorem zkq {n:Int} (h:zai n=true):IntKind.i64.wrap n=n:=by
 rw[zaY]at h;exact zaw (by omega) (by omega)
theorem zja {n:Int} (h:Big n):IntKind.i64.wrap n=n:=by
 unfold Big at h;exact zaw (by omega) (by omega)
theorem zdY (env:Env) (b:Bool):Con prog env 277 [B b] (I (trI b)):=by
 cases b
 ·show Con _ _ _ _ (I 0);refine qf func277 call277 ntmps277 results277 ?_;repeat refine st0 ?_
  exact aR0
 ·show Con _ _ _ _ (I 1);refine qf func277 call277 ntmps277 results277 ?_;repeat refine st0 ?_
  exact aR0
theorem zkw (env:Env) (k a:Int) (hk:k=5\/k=6) (ha:zai a=true):Con prog env 268 [I k,I a] (.tuple [I (unI k a),B true]):=by
 have f0:=zdY env (a==0);rcases hk with rfl|rfl
 ·have q1:IntKind.i64.wrap (0-a)=unI 5 a:=zkq (zqH 5 ha);refine qf func268 call268 ntmps268 results268 ?_;have F:=q1;repeat refine tz1 f0 ?_
  exact aR
 ·have q1:trI (a==0)=unI 6 a:=rfl;refine qf func268 call268 ntmps268 results268 ?_;have F:=q1;repeat refine tz1 f0 ?_
  exact aR
theorem zt2 (env:Env) (k a b:Int) (hk:k=8\/k=9) (ha:zai a=true):Con prog env 278 [I k,I a,I b] (.tuple [I (binI k a b).1,B (binI k a b).2]):=by
 by_cases hb:b=0
 ·subst hb;have q1:binI k a 0=(0,false):=by rcases hk with rfl|rfl<;>rfl
  rw[q1];refine qf func278 call278 ntmps278 results278 ?_;repeat refine st0 ?_
  exact aR0
 have q0:(b==0)=false:=by simpa using hb
 rcases hk with rfl|rfl
 ·have q1:binI 8 a b=(a.tdiv b,true):=by simp[binI,hb]
  have q2:=zkq (zky (b:=b) ha);rw[q1];refine qf func278 call278 ntmps278 results278 ?_;have F:=ai3 q0 q2 hb;repeat refine st ?_
  exact aR
 ·have q1:binI 9 a b=(a.tmod b,true):=by simp[binI,hb]
  rw[q1];refine qf func278 call278 ntmps278 results278 ?_;have F:=ai q0 hb;repeat refine st ?_
  exact aR
theorem znj (env:Env) (k a b:Int) (hk:12<=k/\k<=17):Con prog env 279 [I k,I a,I b] (B (cmpB k a b)):=by
 obtain rfl|rfl|rfl|rfl|rfl|rfl:k=12\/k=13\/k=14\/k=15\/k=16\/k=17:=by omega
 all_goals (refine zdK func279 rfl call279 (by rw [ntmps279]; simp) ?_
            rw[ntmps279,results279])
 all_goals have F:=cmpB.eq_1
 all_goals (repeat refine st ?_)
 all_goals ((refine zal ?_;show (zaG _ _ _).run _=some _;simp only[go_sem,F]))
theorem zi2 (env:Env) (k a b:Int) (hk:7<=k/\k<=19) (ha:zai a=true) (hb:zai b=true):Con prog env 269 [I k,I a,I b] (.tuple [I (binI k a b).1,B (binI k a b).2]):=by
 have hbig:=(znp k ha hb).1;by_cases h7:k=7
 ·subst h7;have f0:=zbR env (a*b);have q1:IntKind.i64.wrap (a*b)=a*b:=zja hbig;show Con _ _ _ _ (.tuple [I (a*b),B (zai (a*b))]);refine qf func269 call269 ntmps269 results269 ?_;have F:=q1;repeat refine tz1 f0 ?_
  exact aR
 by_cases h8:k=8\/k=9
 ·have f0:=zt2 env k a b h8 ha;generalize binI k a b=R at*;rcases h8 with rfl|rfl
  ·refine qf func269 call269 ntmps269 results269 ?_;repeat refine tz01 f0 ?_
   exact aR0
  ·refine qf func269 call269 ntmps269 results269 ?_;repeat refine tz01 f0 ?_
   exact aR0
 by_cases h10:k=10
 ·subst h10;have f0:=zbR env (a+b);have q1:IntKind.i64.wrap (a+b)=a+b:=zja hbig;show Con _ _ _ _ (.tuple [I (a+b),B (zai (a+b))]);refine qf func269 call269 ntmps269 results269 ?_;have F:=q1;repeat refine tz1 f0 ?_
  exact aR
 by_cases h11:k=11
 ·subst h11;have f0:=zbR env (a-b);have q1:IntKind.i64.wrap (a-b)=a-b:=zja hbig;show Con _ _ _ _ (.tuple [I (a-b),B (zai (a-b))]);refine qf func269 call269 ntmps269 results269 ?_;have F:=q1;repeat refine tz1 f0 ?_
  exact aR
 have hT: ∀t:Bool,Con prog env 69 [I (trI t)] (B true):=fun t=>by
  have:=zbR env (trI t);rwa [zc7]at this
 by_cases h18:k=18
 ·subst h18;show Con _ _ _ _ (.tuple [I (trI (a != 0&&b != 0)),B true]);have f0:=zdY env (a != 0&&b != 0);have f1:=hT (a != 0&&b != 0);cases h0:(a != 0)
  ·rw[h0]at f0 f1;refine qf func269 call269 ntmps269 results269 ?_;have F:=h0;repeat refine tz2 f0 f1 ?_
   exact aR
  ·rw[h0]at f0 f1;refine qf func269 call269 ntmps269 results269 ?_;have F:=h0;repeat refine tz2 f0 f1 ?_
   exact aR
 by_cases h19:k=19
 ·subst h19;show Con _ _ _ _ (.tuple [I (trI (a != 0||b != 0)),B true]);have f0:=zdY env (a != 0||b != 0);have f1:=hT (a != 0||b != 0);cases h0:(a != 0)
  ·rw[h0]at f0 f1;refine qf func269 call269 ntmps269 results269 ?_;have F:=h0;repeat refine tz2 f0 f1 ?_
   exact aR
  ·rw[h0]at f0 f1;refine qf func269 call269 ntmps269 results269 ?_;have F:=h0;repeat refine tz2 f0 f1 ?_
   exact aR
 have q1:binI k a b=(trI (cmpB k a b),true):=by
  unfold binI;rw[if_neg h7,if_neg (by omega),if_neg (by omega),if_neg h10,if_neg h11,if_neg h18,if_neg h19]
 rw[q1];have f0:=znj env k a b (by omega);have f1:=zdY env (cmpB k a b);have f2:=hT (cmpB k a b);generalize cmpB k a b=R at*;obtain rfl|rfl|rfl|rfl|rfl|rfl:k=12\/k=13\/k=14\/k=15\/k=16\/k=17:=by omega
 all_goals (refine zdK func269 rfl call269 (by rw [ntmps269]; simp) ?_
            rw[ntmps269,results269])
 all_goals (repeat refine tz03 f0 f1 f2 ?_)
 all_goals ((refine zal ?_;show (zaG _ _ _).run _=some _;simp only[go_sem]))
theorem zod (env:Env) (w:WoD) (o:OpD) (hk:1<=o.kind/\o.kind<=4) (h:numB o w.vars.length w.act.length=true):Con prog env 267 [.agg (opAV o), .agg (woAV w)] (I (leafI w o)):=by
 obtain⟨k,n⟩:=o;simp only at hk;unfold leafI;unfold numB at h;simp only at h |-;obtain rfl|rfl|rfl|rfl:k=1\/k=2\/k=3\/k=4:=by omega
 ·show Con _ _ _ _ (I n);refine qf func267 call267 ntmps267 results267 ?_;have F:=ai opAV.eq_1 woAV.eq_1;repeat refine st ?_
  exact aR
 ·have h:0<=n/\n<w.vars.length:=by simpa using h
  obtain⟨m,rfl⟩:=zdR h.1;have q1:(m:Int)< (w.vars.length:Int):=h.2;have q2:w.vars[m]? =some (w.vars.getD m 0):=by rw[List.getD_eq_getElem?_getD,List.getElem?_eq_getElem (by omega)];rfl
  show Con _ _ _ _ (I (w.vars.getD ((m:Int).toNat) 0));rw[Int.toNat_natCast];refine qf func267 call267 ntmps267 results267 ?_;have F:=ai5 opAV.eq_1 woAV.eq_1 intAV.eq_1 q1 q2;repeat refine st ?_
  exact aR
 ·show Con _ _ _ _ (I w.data);refine qf func267 call267 ntmps267 results267 ?_;have F:=ai opAV.eq_1 woAV.eq_1;repeat refine st ?_
  exact aR
 ·have h:0<=n/\n<w.act.length:=by simpa using h
  obtain⟨m,rfl⟩:=zdR h.1;have q1:(m:Int)< (w.act.length:Int):=h.2;have q2:w.act[m]? =some (w.act.getD m false):=by rw[List.getD_eq_getElem?_getD,List.getElem?_eq_getElem (by omega)];rfl
  show Con _ _ _ _ (I (trI (w.act.getD ((m:Int).toNat) false)));rw[Int.toNat_natCast];have f0:=zdY env (w.act.getD m false);generalize w.act.getD m false=t at*;refine qf func267 call267 ntmps267 results267 ?_;have F:=ai5 opAV.eq_1 woAV.eq_1 zkg.eq_1 q1 q2;repeat refine tz1 f0 ?_
  exact aR
end
section
open Go.RowKit
theorem zrR {c:ChD} {act:List Int} (h:lgB c act=true): ∃l:List Nat,act=zL l/\ ∀k∈l,k<c.states.length:=by
 have h1:=(zob.1 h).1
 have hr: ∀x∈act,0<=x/\x< (c.states.length:Int):=fun x hx=>by
  obtain⟨n,hn,e⟩:=List.getElem_of_mem hx;have:=h1 n hn;rw[zjL (List.getElem?_eq_some_iff.2 ⟨hn,e⟩),Bool.and_eq_true]at this;have h2:=this.2;cases hz:inZ c x with
  |false=>rw[zgO hz]at h2;cases h2
  |true=>exact zag.1 hz
 refine⟨act.map Int.toNat,?_,fun k hk=> ?_⟩
 ·unfold zL;rw[List.map_map];refine((List.map_congr_left fun x hx=> ?_).trans (List.map_id act)).symm;have:=hr x hx;show ((x.toNat:Nat):Int)=x;omega
 ·obtain⟨x,hx,rfl⟩:=List.mem_map.1 hk;have:=hr x hx;omega
def innP (c:ChD) (l:List Nat) (k:Nat):Bool:=manyI (zL l) (kidsL c k true)==0
def lnTo (c:ChD) (l:List Nat) (j:Nat):List Nat:=(l.take j).filter (innP c l)
def innL (c:ChD) (l:List Nat):List Nat:=sortL c (zL (lnTo c l l.length))
theorem zrN {c:ChD} {l:List Nat} {j k:Nat} (h:l[j]? =some k):lnTo c l (j+1)=if innP c l k then lnTo c l j++[k] else lnTo c l j:=by
 unfold lnTo;rw[List.take_add_one,h,List.filter_append];cases hb:innP c l k<;>simp[hb]
theorem zn8 (c:ChD) (l:List Nat) (j:Nat):(lnTo c l j).length<=l.length:=by
 unfold lnTo;exact Nat.le_trans (List.length_filter_le ..) (by rw[List.length_take];omega)
theorem zmY (env:Env) (c:ChD) (h:Full c) (l:List Nat) (hl:l.length<=1000) (hk: ∀k∈l,k<c.states.length):Con prog env 80 [zah c, .seq 1 (l.map zac)] (.own 3 1 ((innL c l).map zac)):=by
 have hlen:=h.few;have f0:=zei env c (by omega) (zL l) (by rw[za9];omega);rw[zcF]at f0;have f1:=fun k:Nat=>zaN env c h k;have f2:=fun k:Nat=>zjJ env c.states.length (zL l) (kidsL c k true) (by omega) (by have:=zaS h.toRight k true;omega) (fun j hj=>by have:=zaJ h.toRight (zan hj).1;omega);have f3:=zaE env c;have f4:=zcG env c h.toRight (zL (lnTo c l l.length)) (by rw[za9];have:=zn8 c l l.length;omega);rw[zcF]at f4;show Con _ _ _ _ (.own _ 1 ((sortL c (zL (lnTo c l l.length))).map zac));generalize sortL c (zL (lnTo c l l.length))=R at*;unfold zaj at f3 f4;unfold zah at f0 f1 f3 |-;generalize hFL:flagA c.states.length (zL l)=FL at*;try clear hFL
 refine qf func80 call80 ntmps80 results80 ?_;repeat refine st0 ?_
 refine zap 5 5 3 1 ?_;refine zab (D:=Nat) (fun j vs=>[(0, .ref 9 [tabCells c] 0 0),(1, .seq 1 (l.map zac)),(5, .row 5 (vs 5)),(8, .seq 1 (l.map zac)),(9,I l.length),(10,I j)]) (fun j _=>[(5,⟨1,(lnTo c l j).map zac,3,true⟩)]) (fun j _ esc=>j<=l.length/\esc 5=false) (fun j=>l.length-j) 0 ?_ ?_ ?_ ?_
 ·exact⟨Nat.zero_le _,rfl⟩
 ·exact qe0
 ·(simp only[go_sem])
  try rfl
 rintro j ws esc ⟨hj,e0⟩;by_cases hlt:j<l.length
 ·obtain⟨k,hx⟩:=gE hlt;have hkl:=hk k (List.mem_of_getElem? hx);have q1:=nlt hlt;have q2:=zaa hlt (by omega);have f1:=f1 k;rw[if_pos (.inr (zar.2 hkl))]at f1;have f2:=f2 k;have hle:=zn8 c l j;have hf:Fits ((lnTo c l j).length+1) 8:=zae (by omega) (by omega);have hn:=zrN (c:=c) hx;have hp:innP c l k=(manyI (zL l) (kidsL c k true)==0):=rfl;cases hb:innP c l k with
  | true=>
    rw[hb,if_pos rfl]at hn;rw[hb]at hp
    have b0:(((manyI (zL l) (kidsL c k true):Nat):Int)==0)=true:=by
     have:=beq_iff_eq.1 hp.symm;simp;omega
    have F:=ai7 zac.eq_1 hx q1 q2 b0 hf e0;repeat refine tz3 f0 f1 f2 ?_
    refine⟨j+1,⟨hlt,by simp only[go_sem,e0]⟩,?_,?_,by omega⟩
    ·exact qe
    ·have F:=ai3 zac.eq_1 hn @List.map_append.{0,0};exact qe
  | false=>
    rw[hb,if_neg Bool.false_ne_true]at hn;rw[hb]at hp
    have b0:(((manyI (zL l) (kidsL c k true):Nat):Int)==0)=false:=by
     have: ¬manyI (zL l) (kidsL c k true)=0:=fun q=>by rw[q]at hp;cases hp
     simp;omega
    have F:=ai6 zac.eq_1 hx q1 q2 b0 e0;repeat refine tz3 f0 f1 f2 ?_
    refine⟨j+1,⟨hlt,by simp only[go_sem,e0]⟩,?_,?_,by omega⟩
    ·exact qe
    ·have F:=ai zac.eq_1 hn;exact qe
 ·obtain rfl:j=l.length:=by omega
  have q1:=nl l.length;have F:=ai q1 e0;repeat refine tz2 f3 f4 ?_
  exact aR
theorem zrt (env:Env) (a1 a8:Addr) (he:ChEnv env a1 a8) (c:ChD) (h:Full c) (hsm:Small c) (l:List Nat) (hl:l.length<=1000) (hk: ∀k∈l,k<c.states.length) (hb:lgB c (zL l)=true):Con prog env 38 [zah c, .seq 1 (l.map zac)] (.tuple [.seq 1 ((innL c l).map zac),nilE]):=by
 have f0:=zbg env a1 a8 he c h hsm (zL l) (by rw[za9];omega);unfold chkE at f0;rw[if_pos hb,zcF]at f0;have f1:=zmY env c h l hl hk;unfold zah at f0 f1 |-;generalize innL c l=R at*;refine qf func38 call38 ntmps38 results38 ?_;repeat refine tz02 f0 f1 ?_
 exact aR0
end
section
open Go.RowKit
def zeg (w:WoD) (g:List OpD):Option Bool:=if g=[] then some true else(zj5 w g).map fun n=>n != 0
def zfV (c:ChD) (n:Nat):List OpD:=match c.trans[n]? with
 |some t=>t.guard
 |none=>[]
def trAt (c:ChD) (n:Nat):TrD:=c.trans.getD n ⟨0,[],[],[],0⟩
theorem zci {c:ChD} {n:Nat} {t:TrD} (h:c.trans[n]? =some t):trAt c n=t:=by
 unfold trAt;rw[List.getD_eq_getElem?_getD,h];rfl
inductive Fd where
 |no
 |one (n:Nat)
 |bad (n:Nat)
def zbO (c:ChD) (w:WoD):List Nat->Fd
 |[]=> .no
 | n::l=>match zeg w (zfV c n) with
   |none=> .bad n
   |some true=> .one n
   |some false=>zbO c w l
def zdb (c:ChD) (w:WoD) (ev:List UInt8):List Int->Fd
 |[]=> .no
 | k::l=>match zbO c w (zb4 c k ev c.trans.length) with
   | .no=>zdb c w ev l
   |r=>r
def zcd (c:ChD) (w:WoD) (ev:List UInt8):List Nat->List Nat->Except Nat (List Nat)
 |[],o=> .ok o
 | i::l,o=>match zdb c w ev ((i:Int)::upL c i) with
   | .bad n=> .error n
   | .no=>zcd c w ev l o
   | .one n=>zcd c w ev l (if o.contains n then o else o++[n])
def zcY (c:ChD) (act:List Int) (a b:Nat):Bool:=(leaveR c act (trAt c a)).any fun i=>(leaveR c act (trAt c b)).contains i
def zmV (c:ChD) (act:List Int) (n k:Nat):Bool:= !zcY c act k n||aboveB c (trAt c k).src (trAt c n).src
def takeL (c:ChD) (act:List Int) (l:List Nat) (n:Nat):List Nat:=if l.all (zmV c act n) then(l.filter fun k=> !zcY c act k n)++[n] else l
def zva (c:ChD) (act:List Int) (l:List Nat):List Nat:=l.foldl (takeL c act) []
def zpZ (c:ChD) (act:List Int) (w:WoD) (ev:List UInt8) (inn:List Nat):Except Nat (List Nat):=match zcd c w ev inn []with
 | .ok l=> .ok (zva c act l)
 | .error n=> .error n
structure Fit (c:ChD) (act:List Int) (l:List Nat):Prop where
 real: ∀n∈l,∃t,c.trans[n]? =some t/\t.src∈act
 two:l.Pairwise fun k n=>k≠n/\zcY c act k n=false
theorem Fit.nil (c:ChD) (act:List Int):Fit c act []:=⟨fun _ h=>by simp at h, .nil⟩
theorem Fit.take {c:ChD} {act:List Int} {l:List Nat} (h:Fit c act l) {n:Nat} (hn: ∃t,c.trans[n]? =some t/\t.src∈act) (hl:n∉l):Fit c act (takeL c act l n):=by
 unfold takeL;split
 ·refine⟨fun m hm=> ?_,?_⟩
  ·rcases List.mem_append.1 hm with hm|hm
   ·exact h.real m (List.mem_filter.1 hm).1
   ·rw[List.mem_singleton.1 hm];exact hn
  ·refine List.pairwise_append.2 ⟨h.two.sublist List.filter_sublist,List.pairwise_singleton ..,fun a ha b hb=> ?_⟩;rw[List.mem_singleton.1 hb];obtain⟨h1,h2⟩:=List.mem_filter.1 ha;exact⟨fun e=>hl (e ▸ h1),by simpa using h2⟩
 ·exact h
theorem znH {c:ChD} {act:List Int} {l:List Nat} {n m:Nat} (h:m∈takeL c act l n):m∈l\/m=n:=by
 unfold takeL at h;split at h
 ·rcases List.mem_append.1 h with h|h
  ·exact .inl (List.mem_filter.1 h).1
  ·exact .inr (List.mem_singleton.1 h)
 ·exact .inl h
theorem zos {c:ChD} {act:List Int} : ∀(l:List Nat) (o:List Nat),Fit c act o->(∀n∈l,∃t,c.trans[n]? =some t/\t.src∈act)->l.Nodup->(∀n∈l,n∉o)->Fit c act (l.foldl (takeL c act) o)
 |[],o,h,_,_,_=>h
 | n::l,o,h,hl,hn,ho=>by
   obtain⟨n1,n2⟩:=List.nodup_cons.1 hn;refine zos l _ (h.take (hl n (by simp)) (ho n (by simp))) (fun m hm=>hl m (by simp[hm])) n2 fun m hm hh=> ?_;rcases znH hh with e|e
   ·exact ho m (by simp[hm]) e
   ·exact n1 (e ▸ hm)
theorem zou {c:ChD} {w:WoD} {n:Nat} : ∀ {l:List Nat},zbO c w l= .one n->n∈l
 |[],h=>by simp[zbO]at h
 | k::l,h=>by
   unfold zbO at h;split at h
   ·cases h
   ·cases h;simp
   ·exact List.mem_cons_of_mem _ (zou h)
theorem zm6 {c:ChD} {w:WoD} {ev:List UInt8} {n:Nat} : ∀ {l:List Int},zdb c w ev l= .one n-> ∃k∈l,∃t,c.trans[n]? =some t/\t.src=k/\t.event=ev
 |[],h=>by simp[zdb]at h
 | k::l,h=>by
   unfold zdb at h;split at h
   ·obtain⟨j,hj,q⟩:=zm6 h;exact⟨j,List.mem_cons_of_mem _ hj,q⟩
   ·rename_i r hr;have:=zou h;unfold zb4 at this;obtain⟨h1,h2⟩:=List.mem_filter.1 this;unfold znS at h2;cases ht:c.trans[n]? with
    |none=>rw[ht]at h2;cases h2
    | some t=>
      rw[ht]at h2;simp only[decide_eq_true_eq]at h2;exact⟨k,by simp,t,rfl,h2.1,h2.2⟩
theorem zj1 {c:ChD} (h:Full c) {act:List Int} (hg:Lg c act) {w:WoD} {ev:List UInt8} : ∀(l o f:List Nat),zcd c w ev l o= .ok f->(∀i∈l,(i:Int)∈act)->(∀n∈o,∃t,c.trans[n]? =some t/\t.src∈act/\t.event=ev)->o.Nodup->(∀n∈f,∃t,c.trans[n]? =some t/\t.src∈act/\t.event=ev)/\f.Nodup
 | [],o,f,e,_,ho,hn=>by
   simp only[zcd,Except.ok.injEq]at e;subst e;exact⟨ho,hn⟩
 | i::l,o,f,e,hl,ho,hn=>by
   unfold zcd at e;split at e
   ·cases e
   ·exact zj1 h hg l o f e (fun j hj=>hl j (by simp[hj])) ho hn
   ·rename_i n hf;refine zj1 h hg l _ f e (fun j hj=>hl j (by simp[hj])) ?_ ?_
    ·obtain⟨k,hk,t,ht,hs,hev⟩:=zm6 hf;have hi:=hl i (by simp);have hz:=(h.src ht).1
     have hka:t.src∈act:=by
      rw[hs]at hz |-;rcases List.mem_cons.1 hk with e|hk
      ·rw[e];exact hi
      ·exact hg.up h.toRight ((i:Int).toNat+1) i k (by omega) hi hk (zag.1 hz).1
     split
     ·exact ho
     ·intro m hm;rcases List.mem_append.1 hm with hm|hm
      ·exact ho m hm
      ·rw[List.mem_singleton.1 hm];exact⟨t,ht,hka,hev⟩
    ·split
     ·exact hn
     ·rename_i hc;refine List.nodup_append.2 ⟨hn,by simp,fun a ha b hb e=>hc ?_⟩;rw[List.mem_singleton.1 hb]at e;rw[List.contains_iff_mem, <-e];exact ha
theorem zv4 {c:ChD} (h:Full c) {l:List Nat} (hk: ∀k∈l,k<c.states.length) {i:Nat} (hi:i∈innL c l):i∈l:=by
 have hs: ∀j,j∈lnTo c l l.length->j∈l:=fun j hj=>List.mem_of_mem_take (List.mem_filter.1 hj).1
 have hz:(zL (lnTo c l l.length)).all (inZ c)=true:=List.all_eq_true.2 fun x hx=>by
  obtain⟨j,hj,rfl⟩:=List.mem_map.1 hx;exact zar.2 (hk j (hs j hj))
 unfold innL at hi;rw[znL h.toRight hz]at hi;obtain⟨j,hj,e⟩:=List.mem_map.1 hi;have:j=i:=by omega
 exact this ▸ hs j hj
theorem zuF {c:ChD} (h:Full c) {act:List Int} (hg:Lg c act) {w:WoD} {ev:List UInt8} {inn f:List Nat} (hi: ∀i∈inn,(i:Int)∈act) (e:zpZ c act w ev inn= .ok f):Fit c act f:=by
 unfold zpZ at e;split at e
 ·rename_i l hl;cases e;obtain⟨h1,h2⟩:=zj1 h hg inn [] l hl hi (fun n hn=>by simp at hn) .nil;exact zos l [] (Fit.nil c act) (fun n hn=>by obtain⟨t,q1,q2,_⟩:=h1 n hn;exact⟨t,q1,q2⟩) h2 (fun n _ hh=>by simp at hh)
 ·cases e
end
section
open Go.RowKit
end
section
open Go.RowKit
theorem zmM {c:ChD} (h:Full c) {mem:List MemD} (hm:zbd c mem=true): ∀m∈mem,m.2≠[]/\m.2.length<=32:=fun m hm'=>by
 have e2:=(zhq hm).2 m hm';unfold memB at e2;split at e2
 ·split at e2
  ·rw[Bool.and_eq_true,decide_eq_true_eq]at e2;exact⟨fun e=>by rw[e]at e2;simp at e2,by omega⟩
  ·unfold deepB at e2;simp only[Bool.and_eq_true]at e2;have hr:=e2.2.1.1.1;have hnd:m.2.Nodup:=zeB hr
   have hin: ∀x∈m.2,inZ c x=true:=fun x hx=>by
    have:=List.all_eq_true.1 e2.2.1.1.2 x hx;unfold zcr at this;rw[Bool.and_eq_true]at this;exact zao this.1
   have:=zdS hnd hin;have:=h.toRight.few;refine⟨fun e=> ?_,by omega⟩;rw[e]at hr;cases hr
 ·cases e2
end
section
open Go.RowKit Go.Extern.Stop Go.Stop Go.Extern
end
section
open Go.RowKit
end
section
open Go.RowKit
end
section
open Go.RowKit
end
section
end
section
open Go.RowKit
def targetR (c:ChD) (t:TrD) (mem:List MemD):List Nat:=if t.target<0 then [] else tgtL c t.src t.target mem
theorem zql (env:Env) (a1 a8:Addr) (he:ChEnv env a1 a8) (c:ChD) (h:Full c) (hs:Small c) (mem:List MemD) (hl:mem.length<=1000000) (hF: ∀m∈mem,Fits m.2.length 8) (k:Nat) (t:TrD) (ht:c.trans[k]? =some t) (hb:zbd c mem=true):Con prog env 76 [zah c,I k,memsAV mem] (.tuple [.seq 1 ((targetR c t mem).map zac),nilE]):=by
 have f0:=zib env a1 a8 he c h hs mem hl hF;unfold chkM at f0;rw[hb,if_pos rfl]at f0;have f1:=zgD env c hs k t ht;unfold targetR;unfold trAV at f1;by_cases h0:t.target<0
 ·rw[if_pos h0];unfold zah at f0 f1 |-;refine qw func76 call76 ntmps76 results76 ?_;have F:=h0;repeat refine tz2 f0 f1 ?_
  (refine zal ?_;refine⟨_,(by show (zaG _ _ _).run _=some _;simp only[go_sem,F];rfl),?_⟩)
  exact .of (.tuple (.cons (.nil 1) (.cons (.refl _) .nil))) (fun _ _ _ h=>by cases h) (fun _ _ _ h=>by cases h)
 ·rw[if_neg h0]
  have htg:inZ c t.target=true:=by
   rcases (h.src ht).2 with e|e
   ·omega
   ·exact e
  have f2:=zo1 env c h hs t (h.src ht).1 htg mem hl (fun m hm=>by have:=(zmM h hb m hm).2;omega) hb;unfold trAV at f2;unfold zah at f0 f1 f2 |-;refine qf func76 call76 ntmps76 results76 ?_;have F:=h0;repeat refine tz3 f0 f1 f2 ?_
  exact aR
end
section
open Go.RowKit
structure RunD where
 act:List Int
 vars:List Int
 mem:List MemD
 tms:List (List UInt8×Int)
 over:Bool
 outs:List Int
 rais:List (List UInt8×Int)
abbrev ErD:=Option (Nat×List Int)
def woR (c:ChD) (d:Int) (r:RunD):WoD:=⟨r.vars,d,(List.range c.states.length).map fun k:Nat=>r.act.contains (k:Int)⟩
def without (l:List (List UInt8×Int)) (s:List UInt8):List (List UInt8×Int):=l.filter fun x=> !(x.1==s)
def insT (x:List UInt8×Int):List (List UInt8×Int)->List (List UInt8×Int)
 |[]=>[x]
 |y::l=>if Op.bytesLess x.1 y.1=true then x::y::l else y::insT x l
def raiseP (r:RunD) (s:List UInt8) (v:Int):RunD×ErD:=if 16<=r.rais.length then(r,some (8,[-1])) else({ r with rais:=r.rais++[(s,v)] },none)
def startP (now:Int) (r:RunD) (s:List UInt8) (v:Int):RunD×ErD:=
 if v<0\/1099511627776-now<v then(r,some (2,[-1]))
 else if 8<=(without r.tms s).length then({ r with tms:=without r.tms s },some (8,[-1]))
 else({ r with tms:=insT (s,now+v) (without r.tms s) },none)
def outP (r:RunD) (v:Int):RunD×ErD:=if 256<=r.outs.length then(r,some (8,[-1])) else({ r with outs:=r.outs++[v] },none)
def doP (c:ChD) (d now:Int) (r:RunD) (a:ActD):RunD×ErD:=
 if a.kind=5 then({ r with tms:=without r.tms a.name },none)
 else match zj5 (woR c d r) a.code with
  |none=>(r,some (2,[-1, -1]))
  | some v=>if a.kind=1 then({ r with vars:=r.vars.set a.n.toNat v },none)
    else if a.kind=2 then raiseP r a.name v
    else if a.kind=4 then startP now r a.name v
    else outP r v
def allP (c:ChD) (d now:Int) (r:RunD):List ActD->RunD×ErD
 |[]=>(r,none)
 | a::l=>match doP c d now r a with
   |(r1,none)=>allP c d now r1 l
   |x=>x
def outA (c:ChD) (i:Int):List ActD:=match at_ c i with
 |some s=>s.out
 |none=>[]
def inA (c:ChD) (i:Int):List ActD:=match at_ c i with
 |some s=>s.inn
 |none=>[]
def zcX (c:ChD) (i:Int):Int:=match at_ c i with
 |some s=>s.kind
 |none=>0
def zvT (c:ChD) (i:Int):List UInt8:=match at_ c i with
 |some s=>s.name
 |none=>[]
def zbn (c:ChD) (d now:Int) (r:RunD):List Int->RunD×ErD
 |[]=>(r,none)
 | i::l=>match allP c d now r (outA c i) with
   |(r1,none)=>zbn c d now { r1 with act:=r1.act.filter fun k=> !(k==i) } l
   |x=>x
def zeq (c:ChD) (d now:Int) (r:RunD):List Nat->RunD×ErD
 |[]=>(r,none)
 | n::l=>match allP c d now r (trAt c n).acts with
   |(r1,none)=>zeq c d now r1 l
   |x=>x
def zaK (c:ChD) (d now:Int) (r:RunD) (f:List Int):List Int->(RunD×ErD)×List Int
 |[]=>((r,none),f)
 | i::l=>if r.act.contains i=true then zaK c d now r f l
   else match allP c d now { r with act:=zbq (r.act++[i]) } (inA c i) with
    |(r1,none)=>zaK c d now r1 (if zcX c i=3 then f++[i] else f) l
    |x=>(x,[])
def dotN (c:ChD) (i:Int):List UInt8:=[100,111,110,101,46]++zvT c i
def zdI (c:ChD) (r:RunD) (o:List Int):List Int->(RunD×ErD)×List Int
 |[]=>((r,none),o)
 | i::l=>if parZ c i<0 then zdI c { r with over:=true } o l
   else match raiseP r (dotN c (parZ c i)) 0 with
    |(r1,none)=>zdI c r1 (if 0<=parZ c (parZ c i)/\zcX c (parZ c (parZ c i))=2 then o++[parZ c (parZ c i)] else o) l
    |x=>(x,[])
def zni (c:ChD) (act:List Int):Nat->Int->Bool
 |0,_=>false
 | f+1,i=>if zcX c i=3 then true
   else if zcX c i=1 then(match (kidZ c i).find? fun k=>act.contains k with
    |some k=>zcX c k==3
    |none=>false)
   else(kidZ c i).all fun k=>zni c act f k
def zsY (c:ChD) (act:List Int) (i:Int):Bool:=act.contains i&&zni c act 40 i
def zeL (c:ChD) (r:RunD):List Int->RunD×ErD
 |[]=>(r,none)
 | g::l=>if zsY c r.act g=true then(match raiseP r (dotN c g) 0 with
    |(r1,none)=>zeL c r1 l
    |x=>x)
   else zeL c r l
def finishP (c:ChD) (r:RunD) (f:List Int):RunD×ErD:=match zdI c r [] f with
 |((r1,none),o)=>zeL c r1 (zL (sortL c o))
 |(x,_)=>x
def enterP (c:ChD) (d now:Int) (r:RunD) (l:List Int):RunD×ErD:=match zaK c d now r [] l with
 |((r1,none),f)=>finishP c r1 f
 |(x,_)=>x
def goneR (c:ChD) (act:List Int) (ts:List Nat):List Int:=ts.flatMap fun n=>leaveR c act (trAt c n)
def toR (c:ChD) (mem:List MemD) (ts:List Nat):List Nat:=ts.flatMap fun n=>targetR c (trAt c n) mem
def stepP (c:ChD) (d now:Int) (r:RunD) (ts:List Nat):RunD×ErD:=
 let gone:=sortL c (goneR c r.act ts)
 let mem:=remL c r.act (zL gone) r.mem
 match zbn c d now { r with mem:=mem } (zL gone).reverse with
 |(r1,none)=>match zeq c d now r1 ts with
   |(r2,none)=>enterP c d now r2 (zL (sortL c (zL (toR c mem ts))))
   |x=>x
 |x=>x
def zsy (c:ChD) (now:Int):RunD×ErD:=enterP c 0 now ⟨[],c.vars.map (·.start),[],[],false,[],[]⟩ (zL (tbegL c (-1)))
end

end Go.Proofs.YtbpmkofnfgdegaaGreatDoor