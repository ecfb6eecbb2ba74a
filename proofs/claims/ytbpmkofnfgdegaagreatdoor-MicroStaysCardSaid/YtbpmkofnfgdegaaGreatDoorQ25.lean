/- States that come and what comes of it, plain: what is active, whether it is over. No program is named here. -/
import Derived.Test.YtbpmkofnfgdegaaGreatDoorQ24
import Derived.Test.YtbpmkofnfgdegaaGreatDoorQ8
import Derived.Test.YtbpmkofnfgdegaaGreatDoorQ6
import Derived.Test.YtbpmkofnfgdegaaGreatDoorQ11
import Derived.Test.YtbpmkofnfgdegaaGreatDoorQ17
import Derived.Test.YtbpmkofnfgdegaaGreatDoorQ19
import Derived.Test.YtbpmkofnfgdegaaGreatDoorQ20
import Derived.Test.YtbpmkofnfgdegaaGreatDoorQ18
import Derived.Test.YtbpmkofnfgdegaaGreatDoorQ23
import Derived.Test.YtbpmkofnfgdegaaGreatDoorQ22
set_option maxRecDepth 100000
set_option maxHeartbeats 16000000
set_option linter.unusedSimpArgs false
namespace Go.Proofs.YtbpmkofnfgdegaaGreatDoor
open Go.Proofs.Tryz
open Go.RowKit
section
theorem zwM (env:Env) (a1 a2 a8:Addr) (he:ChEnv env a1 a8) (h2:env 2=some (sentV a2)) (c:ChD) (hc:c.states.length<=4000) (hcv:c.vars.length<=1000000) (d now:Int) (hd:zai d=true) (hn:0<=now/\now<=1099511627776) (r:RunD) (hr:RunOk c r) (hl:r.act.length<=1000000) (a:ActD) (ha:actB c.vars.length c.states.length a=true):
 ConI prog env 140 [1000,1001,1002,1003,1004,1005] gr5 (fun g=>[.loc 1000 (g 1000) 0 0, .agg (zbl a)]) (RY c d now r) (RY c d now (doP c d now r a).1) (fun _=>errA a2 a8 (doP c d now r a).2):=by
 unfold doP;by_cases h5:a.kind=5
 ·rw[if_pos h5];have f1:=znI env c d now r (by have:=hr.tml;omega) a.name;show ConI _ _ _ _ _ _ _ _ fun _=>nilE;generalize without r.tms a.name=L at*;have k5:(a.kind==5)=true:=by simp[h5]
  unfold RY RYe at f1;refine qi func140 call140 ntmps140 results140 ?_;intro vs esc hesc;obtain⟨e0,e1,e2,e3,e4,e5⟩:=es6 hesc;have F:=ai12 zbl.eq_1 RY.eq_1 RYe.eq_1 gr5.eq_1 zcx k5 e0 e1 e2 e3 e4 e5;repeat refine st ?_
  refine iL L6 f1 ?_;repeat refine st ?_
  exact rI
 rw[if_neg h5]
 have hcode:zbQ a.code c.vars.length c.states.length=true:=by
  unfold actB at ha;repeat' split at ha
  all_goals (first|(exact absurd ‹a.kind=5› h5)|(simp only[Bool.and_eq_true]at ha;exact ha.2)|cases ha)
 have f1:=zoW env c hc d now r hl;have f2:=zsH env a1 a2 a8 he h2 (woR c d r) (zu7 hr hd) (by show r.vars.length<=_;rw[hr.len];exact hcv) a.code (by rw[show (woR c d r).act.length=c.states.length from zl9 c r.act r.vars d,show (woR c d r).vars.length=c.vars.length from hr.len];exact hcode);have hw:(woR c d r).vars=r.vars:=rfl;generalize (woR c d r)=W at*;have k5:(a.kind==5)=false:=by simp[h5]
 unfold woI at f1 f2;unfold rowV at f2;rw[hw]at f2;cases hv:zj5 W a.code with
 | none=>
   have f3:=zgB env [109,105,99,114,111,46,100,111] (-1) (sentV a2);rw[hv]at f2;unfold zeQ at f2;show ConI _ _ _ _ _ _ _ _ fun _=>errV (-1) (errV (-1) (sentV a2));simp only;unfold RY RYe at f1;refine qi func140 call140 ntmps140 results140 ?_;intro vs esc hesc;obtain⟨e0,e1,e2,e3,e4,e5⟩:=es6 hesc;have F:=ai12 zbl.eq_1 RY.eq_1 RYe.eq_1 gr5.eq_1 zcx k5 e0 e1 e2 e3 e4 e5;repeat refine st ?_
   refine iL L6 f1 ?_;repeat refine st ?_
   refine iL [(1002,1002)] f2 ?_;repeat refine tz1 f3 ?_
   exact rI
 | some v=>
   rw[hv]at f2;unfold zeQ at f2;simp only;have r0:=zkO env a2 a8 he.e8 c d now r a.name v;have r1:=zqT env a2 a8 h2 he.e8 c d now hn r hr a.name v;have r2:=zjK env a8 he.e8;by_cases k1:a.kind=1
   ·rw[if_pos k1];have q1:(a.kind==1)=true:=by simp[k1]
    obtain⟨hn0,hn1⟩:0<=a.n/\a.n<c.vars.length:=by
     unfold actB at ha;rw[if_pos k1]at ha;simp only[Bool.and_eq_true,decide_eq_true_eq]at ha;exact ha.1.1
    have hlen:=hr.len;have q2:a.n< (r.vars.length:Int):=by omega
    obtain⟨x,hx⟩: ∃x,r.vars[a.n.toNat]? =some x:=⟨r.vars[a.n.toNat]'(by omega),List.getElem?_eq_getElem _⟩;show ConI _ _ _ _ _ _ _ _ fun _=>nilE;unfold RY RYe at f1;unfold RY;simp only[List.map_set];refine qi func140 call140 ntmps140 results140 ?_;intro vs esc hesc;obtain⟨e0,e1,e2,e3,e4,e5⟩:=es6 hesc;have F:=ai12 zbl.eq_1 intAV.eq_1 RYe.eq_1 gr5.eq_1 zcx k5 q1 q2 hn0 hx e0<|ai5 e1 e2 e3 e4 e5;repeat refine st ?_
    refine iL L6 f1 ?_;repeat refine st ?_
    refine iL [(1002,1002)] f2 ?_;repeat refine st ?_
    exact rI
   rw[if_neg k1];have q1:(a.kind==1)=false:=by simp[k1]
   by_cases k2:a.kind=2
   ·rw[if_pos k2];have q2:(a.kind==2)=true:=by simp[k2]
    generalize raiseP r a.name v=X at*;unfold RY RYe at f1 r0;refine qi func140 call140 ntmps140 results140 ?_;intro vs esc hesc;obtain⟨e0,e1,e2,e3,e4,e5⟩:=es6 hesc;have F:=ai12 zbl.eq_1 RY.eq_1 RYe.eq_1 gr5.eq_1 zcx k5 q1 q2 e0 e1 e2<|ai3 e3 e4 e5;repeat refine st ?_
    refine iL L6 f1 ?_;repeat refine st ?_
    refine iL [(1002,1002)] f2 ?_;repeat refine st ?_
    refine iL L6 r0 ?_;repeat refine st ?_
    exact rI
   rw[if_neg k2];have q2:(a.kind==2)=false:=by simp[k2]
   by_cases k4:a.kind=4
   ·rw[if_pos k4];have q4:(a.kind==4)=true:=by simp[k4]
    generalize startP now r a.name v=X at*;unfold RY RYe at f1 r1;refine qi func140 call140 ntmps140 results140 ?_;intro vs esc hesc;obtain⟨e0,e1,e2,e3,e4,e5⟩:=es6 hesc;have F:=ai12 zbl.eq_1 RY.eq_1 RYe.eq_1 gr5.eq_1 zcx k5 q1 q2 q4 e0 e1<|ai4 e2 e3 e4 e5;repeat refine st ?_
    refine iL L6 f1 ?_;repeat refine st ?_
    refine iL [(1002,1002)] f2 ?_;repeat refine st ?_
    refine iL L6 r1 ?_;repeat refine st ?_
    exact rI
   rw[if_neg k4];have q4:(a.kind==4)=false:=by simp[k4]
   unfold outP;by_cases ho:256<=r.outs.length
   ·rw[if_pos ho];have q0:(256:Int)<=(r.outs.length:Int):=by omega
    show ConI _ _ _ _ _ _ _ _ fun _=>errV (-1) (sentV a8);unfold RY RYe at f1;refine qi func140 call140 ntmps140 results140 ?_;intro vs esc hesc;obtain⟨e0,e1,e2,e3,e4,e5⟩:=es6 hesc;have F:=ai12 zbl.eq_1 RY.eq_1 RYe.eq_1 gr5.eq_1 zcx k5 q1 q2 q4 q0 e0<|ai5 e1 e2 e3 e4 e5;repeat refine st ?_
    refine iL L6 f1 ?_;repeat refine st ?_
    refine iL [(1002,1002)] f2 ?_;repeat refine tz1 r2 ?_
    exact rI
   ·rw[if_neg ho];have q0: ¬(256:Int)<=(r.outs.length:Int):=by omega
    have q3:Fits (r.outs.length+1) 8:=zae (by omega) (by omega);show ConI _ _ _ _ _ _ _ _ fun _=>nilE;unfold RY RYe at f1;unfold RY;simp only[List.map_append,List.map_cons,List.map_nil];refine qi func140 call140 ntmps140 results140 ?_;intro vs esc hesc;obtain⟨e0,e1,e2,e3,e4,e5⟩:=es6 hesc;have F:=ai12 zbl.eq_1 intAV.eq_1 RYe.eq_1 gr5.eq_1 zcx k5 q1 q2 q4 q0 q3<|ai6 e0 e1 e2 e3 e4 e5;repeat refine st ?_
    refine iL L6 f1 ?_;repeat refine st ?_
    refine iL [(1002,1002)] f2 ?_;repeat refine st ?_
    exact rI
structure RunEnv (env:Env) (a1 a2 a8:Addr) (c:ChD) (d now:Int):Prop where
 he:ChEnv env a1 a8
 h2:env 2=some (sentV a2)
 h:Full c
 hs:Small c
 hd:zai d=true
 hn:0<=now/\now<=1099511627776
theorem zu4 {c:ChD} {d now:Int} {r:RunD} {l:List ActD} {j:Nat} {a:ActD} (ha:l[j]? =some a):allP c d now r (l.drop j)=match doP c d now r a with
 |(r1,none)=>allP c d now r1 (l.drop (j+1))
 |x=>x:=by
 rw[zaQ ha]
 conv=>lhs;unfold allP
 rcases doP c d now r a with⟨r1,_|_⟩<;>rfl
theorem znx (env:Env) (a1 a2 a8:Addr) (c:ChD) (d now:Int) (E:RunEnv env a1 a2 a8 c d now) (r:RunD) (hr:RunOk c r) (hl:r.act.length<=1000000) (l:List ActD) (hll:l.length<=1000) (ha: ∀a∈l,actB c.vars.length c.states.length a=true):
 ConI prog env 78 [1000,1001,1002,1003,1004,1005] gr5 (fun g=>[.loc 1000 (g 1000) 0 0, .seq 4 (l.map zbl)]) (RY c d now r) (RY c d now (allP c d now r l).1) (fun _=>errA a2 a8 (allP c d now r l).2):=by
 have hfew:=E.h.few;have hcv:=E.hs.vars;have hdo:=fun(r:RunD) hr hl (a:ActD) ha=>zwM env a1 a2 a8 E.he E.h2 c (by omega) (by omega) d now E.hd E.hn r hr hl a ha;have hok:=fun(r:RunD) (hr:RunOk c r) (a:ActD) ha=>zwL E.hd E.hn hr (a:=a) ha;refine qi func78 call78 ntmps78 results78 ?_;intro vs esc hesc;obtain⟨e0,e1,e2,e3,e4,e5⟩:=es6 hesc;have F:=ai9 RY.eq_1 RYe.eq_1 gr5.eq_1 e0 e1 e2 e3 e4 e5;repeat refine st ?_
 refine zab (D:=Nat×RunD) (fun x vs'=>[(0, .loc 1000 (vs' 1000) 0 0),(8, .seq 4 (l.map zbl)),(9,I l.length),(10,I x.1)]) (fun x vs'=>RY c d now x.2 vs') (fun x vs' esc'=>(x.1<=l.length/\allP c d now r l=allP c d now x.2 (l.drop x.1)/\RunOk c x.2/\x.2.act=r.act)/\(vs' 1000=vs 1000/\vs' 1002=vs 1002)/\esc' 1000=false/\esc' 1001=false/\esc' 1002=false/\esc' 1003=false/\esc' 1004=false/\esc' 1005=false) (fun x=>l.length-x.1) (0,r) ?_ ?_ ?_ ?_
 ·exact⟨⟨Nat.zero_le _,rfl,hr,rfl⟩,by simp only[go_sem,and_self],by simp only[go_sem,e0,e1,e2,e3,e4,e5,and_self]⟩
 ·exact qe
 ·exact qe
 try clear e0 e1 e2 e3 e4 e5
 rintro⟨j,r1⟩ ws es ⟨⟨hj,heq,hr1,hact⟩,⟨v0,v2⟩,e0,e1,e2,e3,e4,e5⟩;simp only at hj heq hr1 hact;by_cases hlt:j<l.length
 ·obtain⟨a,hx⟩:=gE hlt;have ham:=ha a (List.mem_of_getElem? hx);have f0:=hdo r1 hr1 (by rw[hact];exact hl) a ham;obtain⟨k1,k2⟩:=hok r1 hr1 a ham;have q1:=nlt hlt;have q2:=zaa hlt (by omega);rw[zu4 hx]at heq;rcases hX:doP c d now r1 a with⟨r2,_|⟨k,ps⟩⟩
  ·rw[hX]at heq f0 k1 k2;simp only at heq k1 k2;unfold errA RY RYe at f0;simp only at f0;unfold zbl at f0;have F:=ai12 zbl.eq_1 RY.eq_1 RYe.eq_1 gr5.eq_1 hx q1 q2 e0 e1 e2 e3<|ai e4 e5;repeat refine st ?_
   refine iL L6 f0 ?_;repeat refine st ?_
   refine⟨(j+1,r2),⟨⟨hlt,heq,k1,k2.act.trans hact⟩,?_,?_⟩,?_,?_,?_⟩
   ·simp only[go_sem,v0,v2,and_self]
   ·simp only[go_sem,e0,e1,e2,e3,e4,e5,and_self]
   ·exact qe
   ·exact qe
   ·simp only;omega
  ·rw[hX]at heq f0;simp only at heq;rw[heq];unfold errA RY RYe at f0;unfold zbl at f0;simp only at f0;show awp _ _ _ _ _ _;unfold errA;simp only;have F:=ai12 zbl.eq_1 RY.eq_1 RYe.eq_1 gr5.eq_1 hx q1 q2 v0 v2 e0 e1<|ai4 e2 e3 e4 e5;repeat refine st ?_
   refine iL L6 f0 ?_;repeat refine st ?_
   exact rI
 ·obtain rfl:j=l.length:=by omega
  have q1:=nl l.length;rw[List.drop_length]at heq;rw[heq];unfold allP;show awp _ _ _ _ _ _;unfold errA;simp only;have F:=ai12 RY.eq_1 RYe.eq_1 gr5.eq_1 q1 v0 v2 e0 e1 e2 e3 e4 e5;repeat refine st ?_
  exact rI
end
section
end
section
end
section
end
section
theorem zjO {c:ChD} {k:Nat} {s:StD} (hs:c.states[k]? =some s):zcX c k=s.kind:=by unfold zcX;rw[zaM,hs]
theorem zlN (env:Env) (c:ChD) (h:Full c) (act:List Int): ∀(f i:Nat),i<c.states.length->c.states.length-i<=f->Con prog env 203 [.agg (chAV c),zah c, .seq 1 (flagA c.states.length act),I i] (B (zni c act f i))
 |0,i,hi,hf=>by omega
 | f+1,i,hi,hf=>by
   have hlen:=h.few;obtain⟨s,hs⟩:=gE hi;have ih:=fun(k:Nat) hk hf=>zlN env c h act f k hk hf;have q0:=nlt hi;have f0:=zaN env c h i;rw[if_pos (.inr (zar.2 hi))]at f0;have f0:=(f0.lend (za4 (fun _=>rfl) _)).seen;have hK:=zaS h.toRight i true;have hKm: ∀j∈kidsL c i true,i<j/\j<c.states.length:=fun j hj=>by have:=zaJ h.toRight (zan hj).1;omega
   have hfl:=zcv c.states.length act;unfold zni;rw[zjO hs,show kidZ c (i:Int)=zL (kidsL c i true) from rfl];generalize kidsL c i true=K at*;unfold zah at f0 ih |-;by_cases k3:s.kind=3
   ·rw[if_pos k3];have b3:(s.kind==3)=true:=by simp[k3]
    refine qf func203 call203 ntmps203 results203 ?_;have F:=ai5 chAV.eq_1 stAV.eq_1 hs q0 b3;repeat refine st ?_
    exact aR
   rw[if_neg k3];have b3:(s.kind==3)=false:=by simp[k3]
   by_cases k1:s.kind=1
   ·rw[if_pos k1];have b1:(s.kind==1)=true:=by simp[k1]
    refine qf func203 call203 ntmps203 results203 ?_;have F:=ai6 chAV.eq_1 stAV.eq_1 hs q0 b3 b1;repeat refine st ?_
    refine lL f0 ?_;repeat refine st ?_
    refine zab (D:=Nat) (fun j vs=>[(2, .seq 1 (flagA c.states.length act)),(4, .loc 4 (vs 4) 0 0),(25, .seq 1 (K.map zac)),(26,I K.length),(27,I j)]) (fun j vs=>[(4,⟨5,[chAV c],26,false⟩)]) (fun j _ esc=>j<=K.length/\(zL K).find? (fun k=>act.contains k)=((zL K).drop j).find? fun k=>act.contains k) (fun j=>K.length-j) 0 ?_ ?_ ?_ ?_
    ·exact⟨Nat.zero_le _,rfl⟩
    ·exact qe
    ·exact qe
    rintro j ws es ⟨hj,heq⟩;by_cases hlt:j<K.length
    ·obtain⟨k,hx⟩:=gE hlt;obtain⟨_,hk⟩:=hKm k (List.mem_of_getElem? hx);obtain⟨t,ht⟩:=gE hk;have q1:=nlt hlt;have q2:=zaa hlt (by omega);have q3:=nlt hk;have hat:=ze3 (act:=act) hk;rw[zaQ (zqr hx),List.find?_cons]at heq;cases hb:act.contains (k:Int) with
     | true=>
       rw[hb]at hat heq;simp only at heq;rw[heq];simp only[zjO ht];show awp _ _ _ _ _ _;have F:=ai11 chAV.eq_1 stAV.eq_1 zac.eq_1 hs ht hx q1 q2 q3 hat hfl;repeat refine st ?_
       exact aR
     | false=>
       rw[hb]at hat heq;simp only at heq;have F:=ai11 chAV.eq_1 stAV.eq_1 zac.eq_1 hs ht hx q1 q2 q3 hat hfl;repeat refine st ?_
       refine⟨j+1,⟨hlt,heq⟩,?_,?_,by omega⟩
       ·exact qe
       ·exact qe
    ·obtain rfl:j=K.length:=by omega
     have q1:=nl K.length;rw[List.drop_of_length_le (by rw[za9];omega)]at heq;rw[heq];show awp _ _ _ _ _ _;simp only[List.find?_nil];have F:=q1;repeat refine st ?_
     exact aR
   ·rw[if_neg k1];have b1:(s.kind==1)=false:=by simp[k1]
    refine qf func203 call203 ntmps203 results203 ?_;have F:=ai6 chAV.eq_1 stAV.eq_1 hs q0 b3 b1;repeat refine st ?_
    refine lL f0 ?_;repeat refine st ?_
    refine zab (D:=Nat) (fun j vs=>[(1, .ref 9 [tabCells c] 0 0),(2, .seq 1 (flagA c.states.length act)),(4, .loc 4 (vs 4) 0 0),(45, .seq 1 (K.map zac)),(46,I K.length),(47,I j)]) (fun j vs=>[(4,⟨5,[chAV c],26,false⟩)]) (fun j _ esc=>j<=K.length/\((zL K).all fun k=>zni c act f k)=((zL K).drop j).all fun k=>zni c act f k) (fun j=>K.length-j) 0 ?_ ?_ ?_ ?_
    ·exact⟨Nat.zero_le _,rfl⟩
    ·exact qe
    ·exact qe
    rintro j ws es ⟨hj,heq⟩;by_cases hlt:j<K.length
    ·obtain⟨k,hx⟩:=gE hlt;obtain⟨hk0,hk⟩:=hKm k (List.mem_of_getElem? hx);have q1:=nlt hlt;have q2:=zaa hlt (by omega);have f1:=ih k hk (by omega);rw[zaQ (zqr hx),List.all_cons]at heq;cases hb:zni c act f (k:Int) with
     | true=>
       rw[hb]at f1 heq;rw[Bool.true_and]at heq;unfold chAV at f1;have F:=ai5 chAV.eq_1 zac.eq_1 hx q1 q2;repeat refine tz1 f1 ?_
       refine⟨j+1,⟨hlt,heq⟩,?_,?_,by omega⟩
       ·exact qe
       ·exact qe
     | false=>
       rw[hb]at f1 heq;rw[Bool.false_and]at heq;rw[heq];unfold chAV at f1;show awp _ _ _ _ _ _;have F:=ai5 chAV.eq_1 zac.eq_1 hx q1 q2;repeat refine tz1 f1 ?_
       exact aR
    ·obtain rfl:j=K.length:=by omega
     have q1:=nl K.length;rw[List.drop_of_length_le (by rw[za9];omega)]at heq;rw[heq];show awp _ _ _ _ _ _;have F:=q1;repeat refine st ?_
     exact aR
theorem zsX (env:Env) (a1 a8:Addr) (he:ChEnv env a1 a8) (c:ChD) (h:Full c) (hs:Small c) (act:List Int) (hl:act.length<=1000000) (hb:lgB c act=true) (i:Nat) (hi:i<c.states.length):Con prog env 163 [zah c, .seq 1 (act.map intAV),I i] (.tuple [B (zsY c act i),nilE]):=by
 have hlen:=h.few;have f0:=zbg env a1 a8 he c h hs act hl;unfold chkE at f0;rw[hb]at f0;simp only[if_true]at f0;have f1:=((zei env c (by omega) act hl).lend (za4 (fun _=>rfl) _)).seen;have f2:=zas env c hs;have f3:=zlN env c h act 40 i hi (by omega);have hfl:=zcv c.states.length act;have hat:=ze3 (act:=act) hi;have q0:=nlt hi;unfold zsY;cases hc:act.contains (i:Int) with
 | true=>
   rw[hc]at hat;rw[Bool.true_and];unfold zah at*;unfold chAV at f2 f3;refine qf func163 call163 ntmps163 results163 ?_;have F:=ai3 hfl hat q0;repeat refine tz1 f0 ?_
   refine lL f1 ?_;repeat refine tz2 f2 f3 ?_
   exact aR
 | false=>
   rw[hc]at hat;rw[Bool.false_and];unfold zah at*;refine qf func163 call163 ntmps163 results163 ?_;have F:=ai3 hfl hat q0;repeat refine tz1 f0 ?_
   refine lL f1 ?_;repeat refine st ?_
   exact aR
end
section
end
section
theorem zlQ (env:Env) (l:List Int) (p:Int->Bool) (g:FuncId) (G:Int) (te:TypeId) (hp: ∀d,Con prog env g [I d, .ref 1 [[I G]] 0 0] (B (p d))) (hl:l.length<=4096):
 ConI prog env 138 [1000,1001] (fun k=>k==1000) (fun vs=>[.row 1000 (vs 1000), .clo g [.loc 1001 (vs 1001) 0 0]]) (fun _=>[(1000,⟨1,l.map intAV,3,true⟩),(1001,⟨1,[[I G]],te,false⟩)]) (fun _=>[(1000,⟨1,(l.filter fun d=> !p d).map intAV,3,true⟩),(1001,⟨1,[[I G]],te,false⟩)]) (fun vs=> .row 1000 (vs 1000)):=by
 have f0:=(zhC env l p g [[I G]] hp hl).lend rfl;cases hi:idxQ p l with
 | none=>
   rw[hi]at f0;obtain⟨h1,_⟩:=zhF hi;rw[h1];refine qi func138 call138 ntmps138 results138 ?_;intro vs esc hesc;obtain⟨e0,e1⟩:=es2 hesc;have F:=ai4 e0 e1 idxJ.eq_1 idxJ.eq_2;repeat refine st ?_
   refine lL f0 ?_;repeat refine st ?_
   exact rI
 | some i0=>
   rw[hi]at f0;obtain⟨h1,h2,d0,h3,h4⟩:=zhE hi;have g0:((i0:Int) == -1)=false:=by simp
   have g1:=zaa h1 (by omega);refine qi func138 call138 ntmps138 results138 ?_;intro vs esc hesc;obtain⟨e0,e1⟩:=es2 hesc;have F:=ai6 e0 e1 idxJ.eq_1 idxJ.eq_2 g0 g1;repeat refine st ?_
   refine lL f0 ?_;repeat refine st ?_
   refine zab (D:=Nat×List Int) (fun x vs'=>[(0, .row 1000 (vs' 1000)),(1, .clo g [.loc 1001 (vs' 1001) 0 0]),(5,I (((l.take x.1).filter fun d=> !p d).length:Int)),(6,I (x.1:Int))]) (fun x vs'=>[(1000,⟨1,x.2.map intAV,3,true⟩),(1001,⟨1,[[I G]],te,false⟩)]) (fun x vs' esc'=>(x.1<=l.length/\x.2.length=l.length/\((l.take x.1).filter fun d=> !p d).length<x.1/\x.2.take ((l.take x.1).filter fun d=> !p d).length=(l.take x.1).filter (fun d=> !p d)/\x.2.drop x.1=l.drop x.1)/\vs' 1001=vs 1001/\esc' 1000=false/\esc' 1001=false) (fun x=>l.length-x.1) (i0+1,l) ?_ ?_ ?_ ?_
   ·have hq:(l.take (i0+1)).filter (fun d=> !p d)=l.take i0:=by
     rw[zbb h3,List.filter_append, <-h2];simp[h4]
    refine⟨⟨h1,rfl,?_,?_,rfl⟩,by simp only[go_sem],by simp only[go_sem,e0],by simp only[go_sem,e1]⟩
    ·rw[hq,List.length_take];omega
    ·simp only;rw[hq,List.length_take,Nat.min_eq_left (by omega)]
   ·have hq:((l.take (i0+1)).filter fun d=> !p d).length=i0:=by
     rw[zbb h3,List.filter_append, <-h2];simp[h4];omega
    simp only[hq];exact qe
   ·exact qe
   try clear e0 e1 g0 g1 h1 h2 h3 h4 hi
   rintro⟨j,L⟩ ws es ⟨⟨hj,hL,hc,ht,hd⟩,v1,e0,e1⟩;simp only at hj hL hc ht hd;generalize hcn:((l.take j).filter fun d=> !p d).length=c at*;by_cases hlt:j<l.length
   ·obtain⟨d,hx⟩:=gE hlt
    have hxL:L[j]? =some d:=by
     have:=congrArg (fun q:List Int=>q[0]?) hd;simpa[hx]using this
    have f1:=hp d;have g1:(j:Int)< (L.length:Int):=by omega
    have g2:=zaa hlt (by omega);have g3:=zbb hx;cases h1:p d
    ·rw[h1]at f1;obtain⟨y,hy⟩: ∃x,L[c]? =some x:=⟨L[c]'(by omega),List.getElem?_eq_getElem (by omega)⟩;have g4:(c:Int)< (L.length:Int):=by omega
     have g5:IntKind.i64.wrap ((c:Int)+1)=((c+1:Nat):Int):=zaa (show c<l.length by omega) (by omega);have hq:((l.take (j+1)).filter fun d=> !p d)=(l.take j).filter (fun d=> !p d)++[d]:=by rw[g3,List.filter_append];simp[h1]
     have hs:(L.map intAV).set c [I d]=(L.set c d).map intAV:=by rw[List.map_set]
     have F:=ai9 hxL hy e0 e1 g1 g2 g4 g5 hs;repeat refine st ?_
     refine oL (za5 rfl (by simp only[go_sem,F];exact iR)) (f1.lend rfl) (by simp only[go_sem,F];exact iR) (by simp only[go_sem,F];exact⟨rfl,rfl⟩) ?_;repeat refine st ?_
     refine⟨(j+1,L.set c d),⟨⟨hlt,by simpa using hL,?_,?_,?_⟩,?_,?_,?_⟩,?_,?_,?_⟩
     ·simp only[hq,List.length_append,List.length_singleton,hcn];omega
     ·simp only[hq,List.length_append,List.length_singleton,hcn];rw[<-ht];apply List.ext_getElem?;intro k;rw[List.getElem?_take,List.getElem?_set];by_cases hk:k<c
      ·rw[if_pos (by omega),if_neg (by omega),List.getElem?_append_left (by simp;omega),List.getElem?_take,if_pos hk]
      ·by_cases hk2:k=c
       ·subst hk2;rw[if_pos (by omega),if_pos rfl,if_pos (by omega),List.getElem?_append_right (by rw[List.length_take];omega),List.length_take,Nat.min_eq_left (by omega)];simp
       ·rw[if_neg (by omega),List.getElem?_eq_none (by rw[List.length_append,List.length_take,List.length_singleton];omega)]
     ·simp only;rw[List.drop_set_of_lt (by omega)];have:=congrArg (List.drop 1) hd;simpa[List.drop_drop]using this
     ·simp only[go_sem,v1]
     ·simp only[go_sem,e0]
     ·simp only[go_sem,e1]
     ·have hq2:((l.take (j+1)).filter fun d=> !p d).length=c+1:=by rw[hq,List.length_append,hcn];rfl
      simp only[hq2];exact qe
     ·exact qe
     ·simp only;omega
    ·rw[h1]at f1;have hq:((l.take (j+1)).filter fun d=> !p d)=(l.take j).filter (fun d=> !p d):=by rw[g3,List.filter_append];simp[h1]
     have F:=ai5 hxL e0 e1 g1 g2;repeat refine st ?_
     refine oL (za5 rfl (by simp only[go_sem,F];exact iR)) (f1.lend rfl) (by simp only[go_sem,F];exact iR) (by simp only[go_sem,F];exact⟨rfl,rfl⟩) ?_;repeat refine st ?_
     refine⟨(j+1,L),⟨⟨hlt,hL,?_,?_,?_⟩,?_,?_,?_⟩,?_,?_,?_⟩
     ·simp only[hq,hcn];omega
     ·simp only[hq,hcn];exact ht
     ·simp only;have:=congrArg (List.drop 1) hd;simpa[List.drop_drop]using this
     ·simp only[go_sem,v1]
     ·simp only[go_sem,e0]
     ·simp only[go_sem,e1]
     ·simp only[hq,hcn];exact qe
     ·exact qe
     ·simp only;omega
   ·have g1: ¬(j:Int)< (L.length:Int):=by omega
    have hjl:l.take j=l:=List.take_of_length_le (by omega);rw[hjl]at ht hcn;have g4:(c:Int)<=(L.length:Int):=by omega
    have g5:c<=L.length:=by omega
    have g6: ∀X:List (List AV),((L.take c).map intAV++X).take c=(l.filter fun d=> !p d).map intAV:=fun X=>by
     rw[List.take_left' (by rw[List.length_map,List.length_take];omega),ht]
    have g7:c+(L.length-c)=L.length:=by omega
    have g8:min c L.length=c:=by omega
    have F:=ai11 v1 e0 e1 @List.length_take.{0} @List.length_replicate.{0} g1 g4 g5 g6 g7 g8;repeat refine st ?_
    exact rI
end
section
theorem zpH {c:ChD} {d now:Int} {r:RunD} {l:List Int} {j:Nat} {i:Int} (hi:l[j]? =some i):zbn c d now r (l.drop j)=match allP c d now r (outA c i) with
 |(r1,none)=>zbn c d now { r1 with act:=r1.act.filter fun k=> !(k==i) } (l.drop (j+1))
 |x=>x:=by
 rw[zaQ hi]
 conv=>lhs;unfold zbn
 rcases allP c d now r (outA c i) with⟨r1,_|_⟩<;>rfl
theorem ztw {c:ChD} (h:Full c) {k:Nat} {s:StD} (hs:c.states[k]? =some s):(s.out.length<=32/\ ∀a∈s.out,actB c.vars.length c.states.length a=true)/\s.inn.length<=32/\ ∀a∈s.inn,actB c.vars.length c.states.length a=true:=by
 have hk:=h.st k s hs;unfold zbm zcZ at hk;simp only[Bool.and_eq_true,decide_eq_true_eq,List.all_eq_true]at hk;exact⟨⟨hk.2.1,hk.2.2⟩,hk.1.2.1,hk.1.2.2⟩
theorem zpI (env:Env) (G d:Int):Con prog env 139 [I d, .ref 1 [[I G]] 0 0] (B (d==G)):=by
 refine qf func139 call139 ntmps139 results139 ?_;repeat refine st0 ?_
 exact aR0
def RYs (c:ChD) (d now:Int) (G:List Nat) (r:RunD) (g:Nat->Nat):List (Nat×Row):=(1006,⟨1,G.map zac,3,true⟩)::RY c d now r g
theorem zrU (env:Env) (a1 a2 a8:Addr) (c:ChD) (d now:Int) (E:RunEnv env a1 a2 a8 c d now) (r:RunD) (hr:RunOk c r) (hl:r.act.length<=4096) (G:List Nat) (hG: ∀i∈G,i<c.states.length) (hGl:G.length<=4096):
 ConI prog env 77 [1000,1001,1002,1003,1004,1005,1006] gr5 (fun g=>[.loc 1000 (g 1000) 0 0, .row 1006 (g 1006)]) (RYs c d now G r) (RYs c d now G.reverse (zbn c d now r (zL G.reverse)).1) (fun _=>errA a2 a8 (zbn c d now r (zL G.reverse)).2):=by
 have hfew:=E.h.few;have hcv:=E.hs.vars;have hdo:=fun(r:RunD) hr hl (l:List ActD) hll ha=>znx env a1 a2 a8 c d now E r hr hl l hll ha;have hok:=fun(r:RunD) (hr:RunOk c r) (l:List ActD) ha=>zgt E.hd E.hn (l:=l) hr ha;have hdel:=fun(l:List Int) (i:Int) (hl:l.length<=4096)=>zlQ env l (fun k=>k==i) 139 i 3 (fun k=>zpI env i k) hl;have g1:=ziy (zL G) (by rw[za9];omega);have g2:zaL ((zL G).map intC)=G.map zac:=by rw[zaW,zcF]
 have g3:zaL ((zL G).reverse.map intC)=G.reverse.map zac:=by rw[zaW, <-zcF];simp
 have hR: ∀i∈G.reverse,i<c.states.length:=fun i hi=>hG i (List.mem_reverse.1 hi);have hRl:G.reverse.length<=4096:=by rw[List.length_reverse];exact hGl
 generalize G.reverse=R at*;refine qi func77 call77 ntmps77 results77 ?_;intro vs esc hesc;obtain⟨e0,e1,e2,e3,e4,e5,e6⟩:=es7 hesc;have F:=ai11 RYs.eq_1 RY.eq_1 RYe.eq_1 gr5.eq_1 e0 e1 e2 e3 e4 e5 e6;repeat refine st ?_
 refine zhL 1006 rfl (row:=⟨1,G.map zac,3,true⟩) g1 (Nat.succ_ne_zero 0) rfl g2.symm (by simp only[go_sem,e6]<;>exact iR) (by simp only[go_sem,e6]<;>exact iR) (by simp only[go_sem,e6]<;>exact iR) (by simp only[go_sem,e6]<;>exact iR) ?_;rw[g3];repeat refine st ?_
 refine zab (D:=Nat×RunD) (fun x vs'=>[(0, .loc 1000 (vs' 1000) 0 0),(10, .row 1006 (vs' 1006)),(11,I R.length),(12,I x.1)]) (fun x vs'=>RYs c d now R x.2 vs') (fun x vs' esc'=>(x.1<=R.length/\zbn c d now r (zL R)=zbn c d now x.2 ((zL R).drop x.1)/\RunOk c x.2/\x.2.act.length<=4096)/\(vs' 1000=vs 1000/\vs' 1002=vs 1002/\vs' 1006=vs 1006)/\esc' 1000=false/\esc' 1001=false/\esc' 1002=false/\esc' 1003=false/\esc' 1004=false/\esc' 1005=false/\esc' 1006=false) (fun x=>R.length-x.1) (0,r) ?_ ?_ ?_ ?_
 ·exact⟨⟨Nat.zero_le _,rfl,hr,hl⟩,by simp only[go_sem,and_self],by simp only[go_sem,e0,e1,e2,e3,e4,e5,e6,and_self]⟩
 ·exact qe
 ·exact qe
 try clear e0 e1 e2 e3 e4 e5 e6 g1 g2 g3
 rintro⟨j,r1⟩ ws es ⟨⟨hj,heq,hr1,hact⟩,⟨v0,v2,v6⟩,e0,e1,e2,e3,e4,e5,e6⟩;simp only at hj heq hr1 hact;by_cases hlt:j<R.length
 ·obtain⟨i,hx⟩:=gE hlt;have hil:=hR i (List.mem_of_getElem? hx);obtain⟨s,hs⟩:=gE hil;obtain⟨⟨s1,s2⟩,_⟩:=ztw E.h hs;have ho:outA c i=s.out:=by unfold outA;rw[zaM,hs]
  have f0:=hdo r1 hr1 (by omega) s.out (by omega) s2;obtain⟨k1,k2⟩:=hok r1 hr1 s.out s2;have q1:=nlt hlt;have q2:=zaa hlt (by omega);have q3:=nlt hil;rw[zpH (zqr hx),ho]at heq;rcases hX:allP c d now r1 s.out with⟨r2,_|⟨k,ps⟩⟩
  ·rw[hX]at heq f0 k1 k2;simp only at heq k1 k2;have hact2:r2.act.length<=4096:=by have:=k2.act;rw[this];exact hact
   have f3:=hdel r2.act i hact2;have hact3:(r2.act.filter fun k=> !(k==(i:Int))).length<=4096:=Nat.le_trans (List.length_filter_le ..) hact2;generalize hF:(r2.act.filter fun k=> !(k==(i:Int)))=L2 at*;unfold errA RY RYe at f0;simp only at f0;have F:=ai12 stAV.eq_1 zac.eq_1 actsAV.eq_1 RYs.eq_1 RY.eq_1 RYe.eq_1 gr5.eq_1 hx hs q1 q2<|ai8 q3 e0 e1 e2 e3 e4 e5 e6;repeat refine st ?_
   refine iL L6 f0 ?_;repeat refine st ?_
   refine iL [(1000,1001),(1001,6)] f3 ?_;repeat refine st ?_
   refine⟨(j+1,{ r2 with act:=L2 }),⟨⟨hlt,heq,{ k1 with },hact3⟩,?_,?_⟩,?_,?_,?_⟩
   ·simp only[go_sem,v0,v2,v6,and_self]
   ·simp only[go_sem,e0,e1,e2,e3,e4,e5,e6,and_self]
   ·exact qe
   ·exact qe
   ·simp only;omega
  ·rw[hX]at heq f0;simp only at heq;rw[heq];unfold errA RY RYe at f0;simp only at f0;show awp _ _ _ _ _ _;unfold errA;simp only;have F:=ai12 stAV.eq_1 zac.eq_1 actsAV.eq_1 RYs.eq_1 RY.eq_1 RYe.eq_1 gr5.eq_1 hx hs q1 q2<|ai11 q3 v0 v2 v6 e0 e1 e2 e3 e4 e5 e6;repeat refine st ?_
   refine iL L6 f0 ?_;repeat refine st ?_
   exact rI
 ·obtain rfl:j=R.length:=by omega
  have q1:=nl R.length;rw[List.drop_of_length_le (by rw[za9];omega)]at heq;rw[heq];unfold zbn;show awp _ _ _ _ _ _;unfold errA;simp only;have F:=ai12 RYs.eq_1 RY.eq_1 RYe.eq_1 gr5.eq_1 q1 v0 v2 v6 e0 e1 e2<|ai4 e3 e4 e5 e6;repeat refine st ?_
  exact rI
end
section
theorem zs3 {c:ChD} {d now:Int} {r:RunD} {f l:List Int} {j:Nat} {i:Int} (hi:l[j]? =some i):zaK c d now r f (l.drop j)=if r.act.contains i=true then zaK c d now r f (l.drop (j+1)) else match allP c d now { r with act:=zbq (r.act++[i]) } (inA c i) with
 |(r1,none)=>zaK c d now r1 (if zcX c i=3 then f++[i] else f) (l.drop (j+1))
 |x=>(x,[]):=by
 rw[zaQ hi]
 conv=>lhs;unfold zaK
 rcases allP c d now { r with act:=zbq (r.act++[i]) } (inA c i) with⟨r1,_|_⟩<;>rfl
def zs4 (a2 a8:Addr) (e:ErD) (f:List Int):AV:=match e with
 |none=> .tuple [.seq 1 (f.map intAV),nilE]
 |some x=> .tuple [nilS,errA a2 a8 (some x)]
theorem zuP (env:Env) (a1 a2 a8:Addr) (c:ChD) (d now:Int) (E:RunEnv env a1 a2 a8 c d now) (r:RunD) (hr:RunOk c r) (hl:r.act.length<=1000) (G:List Nat) (hG: ∀i∈G,i<c.states.length) (hGl:G.length<=1000):
 ConI prog env 109 [1000,1001,1002,1003,1004,1005] gr5 (fun g=>[.loc 1000 (g 1000) 0 0, .seq 1 (G.map zac)]) (RY c d now r) (RY c d now (zaK c d now r [] (zL G)).1.1) (fun _=>zs4 a2 a8 (zaK c d now r [] (zL G)).1.2 (zaK c d now r [] (zL G)).2):=by
 have hfew:=E.h.few;have hcv:=E.hs.vars;have hdo:=fun(r:RunD) hr hl (l:List ActD) hll ha=>znx env a1 a2 a8 c d now E r hr hl l hll ha;have hok:=fun(r:RunD) (hr:RunOk c r) (l:List ActD) ha=>zgt E.hd E.hn (l:=l) hr ha;refine qi func109 call109 ntmps109 results109 ?_;intro vs esc hesc;obtain⟨e0,e1,e2,e3,e4,e5⟩:=es6 hesc;have F:=ai9 RY.eq_1 RYe.eq_1 gr5.eq_1 e0 e1 e2 e3 e4 e5;repeat refine st ?_
 refine zap 6 6 3 1 ?_;refine zab (D:=Nat×RunD×List Int) (fun x vs'=>[(0, .loc 1000 (vs' 1000) 0 0),(4,nilS),(5,nilE),(6, .row 6 (vs' 6)),(10, .seq 1 (G.map zac)),(11,I G.length),(12,I x.1)]) (fun x vs'=>(6,⟨1,x.2.2.map intAV,3,true⟩)::RY c d now x.2.1 vs') (fun x vs' esc'=>(x.1<=G.length/\zaK c d now r [] (zL G)=zaK c d now x.2.1 x.2.2 ((zL G).drop x.1)/\RunOk c x.2.1/\x.2.1.act.length<=r.act.length+x.1/\x.2.2.length<=x.1)/\(vs' 1000=vs 1000/\vs' 1002=vs 1002)/\esc' 1000=false/\esc' 1001=false/\esc' 1002=false/\esc' 1003=false/\esc' 1004=false/\esc' 1005=false/\esc' 6=false) (fun x=>G.length-x.1) (0,r,[]) ?_ ?_ ?_ ?_
 ·exact⟨⟨Nat.zero_le _,rfl,hr,Nat.le_refl _,Nat.le_refl _⟩,by simp only[go_sem,and_self],by simp only[go_sem,e0,e1,e2,e3,e4,e5,and_self]⟩
 ·exact qe
 ·exact qe
 try clear e0 e1 e2 e3 e4 e5
 rintro⟨j,r1,f⟩ ws es ⟨⟨hj,heq,hr1,hact,hfl⟩,⟨v0,v2⟩,e0,e1,e2,e3,e4,e5,e6⟩;simp only at hj heq hr1 hact hfl;by_cases hlt:j<G.length
 ·obtain⟨i,hx⟩:=gE hlt;have hil:=hG i (List.mem_of_getElem? hx);obtain⟨s,hs⟩:=gE hil;obtain⟨_,s1,s2⟩:=ztw E.h hs;have ho:inA c i=s.inn:=by unfold inA;rw[zaM,hs]
  have hk:zcX c i=s.kind:=by unfold zcX;rw[zaM,hs]
  have q1:=nlt hlt;have q2:=zaa hlt (by omega);have q3:=nlt hil;have fc:=(zaB env r1.act i (by omega)).lend rfl;rw[zs3 (zqr hx),ho,hk]at heq;cases hc:r1.act.contains (i:Int) with
  | true=>
    rw[hc]at heq fc;simp only[if_true]at heq;have F:=ai12 stAV.eq_1 zac.eq_1 actsAV.eq_1 RY.eq_1 RYe.eq_1 gr5.eq_1 hx hs q1 q2 q3<|ai7 e0 e1 e2 e3 e4 e5 e6;repeat refine st ?_
    refine lL fc ?_;repeat refine st ?_
    refine⟨(j+1,r1,f),⟨⟨hlt,heq,hr1,by simp only;omega,by simp only;omega⟩,?_,?_⟩,?_,?_,?_⟩
    ·simp only[go_sem,v0,v2,and_self]
    ·simp only[go_sem,e0,e1,e2,e3,e4,e5,e6,and_self]
    ·exact qe
    ·exact qe
    ·simp only;omega
  | false=>
    rw[hc]at heq fc;simp only[Bool.false_eq_true,if_false]at heq;have hact1:(zbq (r1.act++[(i:Int)])).length<=r.act.length+(j+1):=by rw[zg7,List.length_append,List.length_singleton];omega
    have f0:=hdo { r1 with act:=zbq (r1.act++[(i:Int)]) } { hr1 with } (by simp only;omega) s.inn (by omega) s2;obtain⟨k1,k2⟩:=hok { r1 with act:=zbq (r1.act++[(i:Int)]) } { hr1 with } s.inn s2;have g1:=zg8 (r1.act++[(i:Int)]) (by simp;omega);have g2:zaL ((r1.act++[(i:Int)]).map intC)=r1.act.map intAV++[[I i]]:=by rw[zaW,List.map_append];rfl
    have g3:=zaW (zbq (r1.act++[(i:Int)]));have q4:Fits (r1.act.length+1) 8:=zae (by omega) (by omega);rcases hX:allP c d now { r1 with act:=zbq (r1.act++[(i:Int)]) } s.inn with⟨r2,_|⟨k,ps⟩⟩
    ·rw[hX]at heq f0 k1 k2;simp only at heq k1 k2;have hact2:r2.act.length<=r.act.length+(j+1):=by have:=k2.act;rw[this];exact hact1
     try clear k2 hact1
     generalize hS:zbq (r1.act++[(i:Int)])=S at*;unfold errA RY RYe at f0;simp only at f0;cases h3:s.kind==3 with
     | false=>
       have h4: ¬s.kind=3:=by simpa using h3
       rw[if_neg h4]at heq;have F:=ai12 stAV.eq_1 zac.eq_1 actsAV.eq_1 RY.eq_1 RYe.eq_1 gr5.eq_1 hx hs q1 q2 q3<|ai9 q4 h3 e0 e1 e2 e3 e4 e5 e6;repeat refine st ?_
       refine lL fc ?_;repeat refine st ?_
       refine zhL 1001 rfl (row:=⟨1,r1.act.map intAV++[[I i]],3,true⟩) g1 (Nat.succ_ne_zero 0) rfl g2.symm (by simp only[go_sem,e1]<;>exact iR) (by simp only[go_sem,e1]<;>exact iR) (by simp only[go_sem,e1]<;>exact iR) (by simp only[go_sem,e1]<;>exact iR) ?_;rw[g3];repeat refine st ?_
       refine iL L6 f0 ?_;repeat refine st ?_
       refine⟨(j+1,r2,f),⟨⟨hlt,heq,k1,hact2,by simp only;omega⟩,?_,?_⟩,?_,?_,?_⟩
       ·simp only[go_sem,v0,v2,and_self]
       ·simp only[go_sem,e0,e1,e2,e3,e4,e5,e6,and_self]
       ·exact qe
       ·exact qe
       ·simp only;omega
     | true=>
       have h4:s.kind=3:=by simpa using h3
       rw[if_pos h4]at heq;have q5:Fits (f.length+1) 8:=zae (by omega) (by omega);have q6:(f++[(i:Int)]).map intAV=f.map intAV++[[I i]]:=by rw[List.map_append];rfl
       have F:=ai12 stAV.eq_1 zac.eq_1 actsAV.eq_1 RY.eq_1 RYe.eq_1 gr5.eq_1 hx hs q1 q2 q3<|ai10 q4 q5 h3 e0 e1 e2 e3 e4 e5 e6;repeat refine st ?_
       refine lL fc ?_;repeat refine st ?_
       refine zhL 1001 rfl (row:=⟨1,r1.act.map intAV++[[I i]],3,true⟩) g1 (Nat.succ_ne_zero 0) rfl g2.symm (by simp only[go_sem,e1]<;>exact iR) (by simp only[go_sem,e1]<;>exact iR) (by simp only[go_sem,e1]<;>exact iR) (by simp only[go_sem,e1]<;>exact iR) ?_;rw[g3];repeat refine st ?_
       refine iL L6 f0 ?_;repeat refine st ?_
       refine⟨(j+1,r2,f++[(i:Int)]),⟨⟨hlt,heq,k1,hact2,by simp only[List.length_append,List.length_singleton];omega⟩,?_,?_⟩,?_,?_,?_⟩
       ·simp only[go_sem,v0,v2,and_self]
       ·simp only[go_sem,e0,e1,e2,e3,e4,e5,e6,and_self]
       ·exact qe
       ·simp only[q6];exact qe
       ·simp only;omega
    ·rw[hX]at heq f0;simp only at heq;rw[heq];try clear k1 k2 hact1
     generalize hS:zbq (r1.act++[(i:Int)])=S at*;unfold errA RY RYe at f0;simp only at f0;show awp _ _ _ _ _ _;unfold zs4 errA;simp only;have F:=ai12 stAV.eq_1 zac.eq_1 actsAV.eq_1 RY.eq_1 RYe.eq_1 gr5.eq_1 hx hs q1 q2 q3<|ai10 q4 v0 v2 e0 e1 e2 e3 e4 e5 e6;repeat refine st ?_
     refine lL fc ?_;repeat refine st ?_
     refine zhL 1001 rfl (row:=⟨1,r1.act.map intAV++[[I i]],3,true⟩) g1 (Nat.succ_ne_zero 0) rfl g2.symm (by simp only[go_sem,e1]<;>exact iR) (by simp only[go_sem,e1]<;>exact iR) (by simp only[go_sem,e1]<;>exact iR) (by simp only[go_sem,e1]<;>exact iR) ?_;rw[g3];repeat refine st ?_
     refine iL L6 f0 ?_;repeat refine st ?_
     exact rI
 ·obtain rfl:j=G.length:=by omega
  have q1:=nl G.length;rw[List.drop_of_length_le (by rw[za9];omega)]at heq;rw[heq];unfold zaK;show awp _ _ _ _ _ _;unfold zs4;simp only;refine zdN (Turned.frozen 6 6 ⟨1,f.map intAV,3,true⟩ rfl (Nat.succ_ne_zero 0) (by simp only[go_sem]) (by simp only[go_sem])) ?_;have F:=ai12 RY.eq_1 RYe.eq_1 gr5.eq_1 q1 v0 v2 e0 e1 e2 e3 e4<|ai e5 e6;repeat refine st ?_
  exact rI
end
section
theorem ztU {l:List Int} (h:l.Pairwise (· < ·)) {i:Int} (hi:l.contains i=false):(zbq (l++[i])).Pairwise (· < ·)/\ ∀x,x∈zbq (l++[i])↔x∈l\/x=i:=by
 have hn:(l++[i]).Nodup:=List.nodup_append.2 ⟨h.imp fun h=>by omega,by simp,fun a ha b hb e=>by
  rw[List.mem_singleton.1 hb]at e;have:l.contains i=true:=List.contains_iff_mem.2 (e ▸ ha);rw[hi]at this
  cases this⟩
 obtain⟨h1,h2⟩:=zfG hn;exact⟨h1,fun x=>by rw[h2];simp⟩
structure Came (c:ChD) (r:RunD) (f l:List Int) (r1:RunD) (f1:List Int):Prop where
 rise:r1.act.Pairwise (· < ·)
 mem: ∀x,x∈r1.act↔x∈r.act\/x∈l
 fin: ∀x,x∈f1↔x∈f\/(x∈l/\x∉r.act/\zcX c x=3)
 mm:r1.mem=r.mem
 over:r1.over=r.over
 len:f1.length<=f.length+l.length
theorem ze6 {c:ChD} (hA:ActsOk c) {d now:Int} (hd:zai d=true) (hn:0<=now/\now<=1099511627776): ∀ {l:List Int} {r:RunD} {f:List Int},RunOk c r->r.act.Pairwise (· < ·)->RunOk c (zaK c d now r f l).1.1/\((zaK c d now r f l).1.2=none->Came c r f l (zaK c d now r f l).1.1 (zaK c d now r f l).2)
 |[],r,f,h,hr=>⟨h,fun _=>⟨hr,fun x=>by simp[zaK],fun x=>by simp[zaK],rfl,rfl,by simp[zaK]⟩⟩
 | i::l,r,f,h,hr=>by
   unfold zaK;split
   ·rename_i hc;obtain⟨k1,k2⟩:=ze6 hA (l:=l) (f:=f) hd hn h hr;refine⟨k1,fun he=> ?_⟩;have hi:i∈r.act:=List.contains_iff_mem.1 hc;have k:=k2 he;refine⟨k.rise,fun x=> ?_,fun x=> ?_,k.mm,k.over,Nat.le_trans k.len (by simp)⟩
    ·rw[k.mem,List.mem_cons];constructor
     ·rintro(q|q)
      ·exact .inl q
      ·exact .inr (.inr q)
     ·rintro(q|rfl|q)
      ·exact .inl q
      ·exact .inl hi
      ·exact .inr q
    ·rw[k.fin,List.mem_cons];constructor
     ·rintro(q|⟨q1,q2⟩)
      ·exact .inl q
      ·exact .inr ⟨.inr q1,q2⟩
     ·rintro(q|⟨rfl|q1,q2,q3⟩)
      ·exact .inl q
      ·exact absurd hi q2
      ·exact .inr ⟨q1,q2,q3⟩
   ·rename_i hc;have hc:r.act.contains i=false:=by simpa using hc
    obtain⟨s1,s2⟩:=ztU hr hc;obtain⟨k1,k2⟩:=zgt (r:={ r with act:=zbq (r.act++[i]) }) hd hn { h with } (hA.inn i);split
    ·rename_i r1 e;rw[e]at k1 k2;have ha:r1.act=zbq (r.act++[i]):=k2.act;obtain⟨k3,k4⟩:=ze6 hA (l:=l) (f:=if zcX c i=3 then f++[i] else f) hd hn k1 (by rw[ha];exact s1);refine⟨k3,fun he=> ?_⟩;have k:=k4 he
     have hin:i∉r.act:=fun hh=>by
      have:=List.contains_iff_mem.2 hh;rw[hc]at this;cases this
     refine⟨k.rise,fun x=> ?_,fun x=> ?_,k.mm.trans k2.mem,k.over.trans k2.over,?_⟩
     ·rw[k.mem,ha,s2,List.mem_cons];constructor
      ·rintro((q|q)|q)
       ·exact .inl q
       ·exact .inr (.inl q)
       ·exact .inr (.inr q)
      ·rintro(q|q|q)
       ·exact .inl (.inl q)
       ·exact .inl (.inr q)
       ·exact .inr q
     ·rw[k.fin,ha]
      have h2:x∈(if zcX c i=3 then f++[i] else f)↔x∈f\/(x=i/\zcX c i=3):=by
       split
       ·rename_i h3;simp[h3]
       ·rename_i h3;simp[h3]
      rw[h2,s2,List.mem_cons];constructor
      ·rintro((q|⟨rfl,q⟩)|⟨q1,q2,q3⟩)
       ·exact .inl q
       ·exact .inr ⟨.inl rfl,hin,q⟩
       ·exact .inr ⟨.inr q1,fun hh=>q2 (.inl hh),q3⟩
      ·rintro(q|⟨rfl|q1,q2,q3⟩)
       ·exact .inl (.inl q)
       ·exact .inl (.inr ⟨rfl,q3⟩)
       ·by_cases e:x=i
        ·subst e;exact .inl (.inr ⟨rfl,q3⟩)
        ·exact .inr ⟨q1,fun hh=>hh.elim q2 e,q3⟩
     ·refine Nat.le_trans k.len ?_;split
      ·simp only[List.length_append,List.length_cons,List.length_nil];omega
      ·simp only[List.length_cons];omega
    ·rename_i x hx;refine⟨k1,fun he=>absurd he ?_⟩;intro hh;rcases hq:allP c d now { r with act:=zbq (r.act++[i]) } (inA c i) with⟨r1,e1⟩;rw[hq]at hh;simp only at hh;subst hh;exact hx r1 hq
theorem zna {c:ChD} : ∀ {l:List Int} {r:RunD} {o:List Int},RunOk c r->RunOk c (zdI c r o l).1.1/\(zdI c r o l).1.1.act=r.act/\(zdI c r o l).1.1.mem=r.mem/\((zdI c r o l).1.2=none->(zdI c r o l).1.1.over=(r.over||l.any fun i=>decide (parZ c i<0))/\(zdI c r o l).2=o++(((l.filter fun i=> !decide (parZ c i<0)).map fun i=>parZ c (parZ c i)).filter fun g=>decide (0<=g)&&zcX c g==2))
 |[],r,o,h=>⟨h,rfl,rfl,fun _=>by simp[zdI]⟩
 | i::l,r,o,h=>by
   unfold zdI;split
   ·rename_i hp;obtain⟨k1,k2,k3,k4⟩:=zna (l:=l) (r:={ r with over:=true }) (o:=o) { h with };refine⟨k1,k2,k3,fun he=> ?_⟩;obtain⟨q1,q2⟩:=k4 he;rw[q1,q2];simp[hp]
   ·rename_i hp;obtain⟨k1,k2⟩:=zjt h (dotN c (parZ c i)) 0;split
    ·rename_i r1 e;rw[e]at k1 k2;obtain⟨k3,k4,k5,k6⟩:=zna (l:=l) (r:=r1) (o:=if 0<=parZ c (parZ c i)/\zcX c (parZ c (parZ c i))=2 then o++[parZ c (parZ c i)] else o) k1;refine⟨k3,k4.trans k2.act,k5.trans k2.mem,fun he=> ?_⟩;obtain⟨q1,q2⟩:=k6 he;have hov:r1.over=r.over:=k2.over;rw[q1,q2,hov];refine⟨by simp[hp],?_⟩;have e1:(i::l).filter (fun i=> !decide (parZ c i<0))=i::l.filter (fun i=> !decide (parZ c i<0)):=List.filter_cons_of_pos (by simp[hp]);rw[e1,List.map_cons];split
     ·rename_i hg;rw[List.filter_cons_of_pos (by simp[hg]),List.append_assoc];rfl
     ·rename_i hg;rw[List.filter_cons_of_neg (by simp;omega)]
    ·rename_i x hx;refine⟨k1,k2.act,k2.mem,fun he=>absurd he ?_⟩;intro hh;rcases hq:raiseP r (dotN c (parZ c i)) 0 with⟨r1,e1⟩;rw[hq]at hh;simp only at hh;subst hh;exact hx r1 hq
theorem zm9 {c:ChD} : ∀ {l:List Int} {r:RunD},RunOk c r->RunOk c (zeL c r l).1/\RunSame r (zeL c r l).1
 |[],r,h=>⟨h, .rfl⟩
 | g::l,r,h=>by
   unfold zeL;split
   ·obtain⟨k1,k2⟩:=zjt h (dotN c g) 0;split
    ·rename_i r1 e;rw[e]at k1 k2;obtain⟨k3,k4⟩:=zm9 (l:=l) k1;exact⟨k3,k2.trans k4⟩
    ·exact⟨k1,k2⟩
   ·exact zm9 h
structure Entered (c:ChD) (r:RunD) (l:List Int) (r1:RunD):Prop where
 rise:r1.act.Pairwise (· < ·)
 mem: ∀x,x∈r1.act↔x∈r.act\/x∈l
 mm:r1.mem=r.mem
 over:r1.over=(r.over||l.any fun x=> !r.act.contains x&&zcX c x==3&&decide (parZ c x<0))
theorem zuE {c:ChD} (hA:ActsOk c) {d now:Int} (hd:zai d=true) (hn:0<=now/\now<=1099511627776) {l:List Int} {r:RunD} (h:RunOk c r) (hr:r.act.Pairwise (· < ·)):RunOk c (enterP c d now r l).1/\((enterP c d now r l).2=none->Entered c r l (enterP c d now r l).1):=by
 obtain⟨k1,k2⟩:=ze6 hA (l:=l) (f:=[]) hd hn h hr;unfold enterP;split
 ·rename_i r1 f e;rw[e]at k1 k2;have kc:=k2 rfl;obtain⟨m1,m2,m3,m4⟩:=zna (l:=f) (o:=[]) k1;unfold finishP;split
  ·rename_i r2 o e2;rw[e2]at m1 m2 m3 m4;obtain⟨n1,n2⟩:=zm9 (l:=zL (sortL c o)) m1;refine⟨n1,fun he=> ?_⟩;obtain⟨m5,_⟩:=m4 rfl;have ea:(zeL c r2 (zL (sortL c o))).1.act=r1.act:=n2.act.trans m2;refine⟨by rw[ea];exact kc.rise,fun x=>by rw[ea];exact kc.mem x,n2.mem.trans (m3.trans kc.mm),?_⟩;rw[n2.over];have m5:r2.over=(r1.over||f.any fun i=>decide (parZ c i<0)):=m5;have kov:r1.over=r.over:=kc.over;rw[m5,kov]
   congr 1
   rw[Bool.eq_iff_iff,List.any_eq_true,List.any_eq_true];constructor
   ·rintro⟨x,hx,hp⟩;rcases (kc.fin x).1 hx with q|⟨q1,q2,q3⟩
    ·simp at q
    ·refine⟨x,q1,?_⟩;rw[hp,q3];simp[q2]
   ·rintro⟨x,hx,hp⟩;simp only[Bool.and_eq_true,Bool.not_eq_true',beq_iff_eq]at hp;refine⟨x,(kc.fin x).2 (.inr ⟨hx,fun hh=> ?_,hp.1.2⟩),hp.2⟩;have:=List.contains_iff_mem.2 hh;rw[hp.1.1]at this;cases this
  ·rename_i x y hh e2;rw[e2]at m1;refine⟨m1,fun he=> ?_⟩;rcases x with⟨r2,_|e3⟩
   ·exact(hh _ rfl).elim
   ·cases he
 ·rename_i x y hh e;rw[e]at k1;refine⟨k1,fun he=> ?_⟩;rcases x with⟨r2,_|e3⟩
  ·exact(hh _ rfl).elim
  ·cases he
end

end Go.Proofs.YtbpmkofnfgdegaaGreatDoor