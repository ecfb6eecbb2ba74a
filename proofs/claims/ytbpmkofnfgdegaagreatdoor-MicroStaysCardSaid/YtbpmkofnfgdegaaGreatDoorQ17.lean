/- Walking without memory: a row that a slot holds, seen as a list, at a round's end; ways that meet again. No program is named here. -/
import Derived.Test.YtbpmkofnfgdegaaGreatDoorQ16
import Derived.Test.YtbpmkofnfgdegaaGreatDoorQ8
import Derived.Test.YtbpmkofnfgdegaaGreatDoorQ6
import Derived.Test.YtbpmkofnfgdegaaGreatDoorQ13
import Derived.Test.YtbpmkofnfgdegaaGreatDoorQ14
set_option maxRecDepth 100000
set_option maxHeartbeats 8000000
set_option linter.unusedSimpArgs false
namespace Go.Proofs.YtbpmkofnfgdegaaGreatDoor
open Go.Proofs.Tryz
open Go.RowKit
section
theorem zei (env:Env) (c:ChD) (hc:c.states.length<=4000) (act:List Int) (hl:act.length<=1000000):Con prog env 141 [zah c, .seq 1 (act.map intAV)] (.own 4 1 (flagA c.states.length act)):=by
 have f0:=zaE env c;have f1:=znE env c;have hz:=zss c.states.length;have m1: ¬(16777216:Int)< (c.states.length:Int):=by omega
 have m2: ¬(281474976710656:Int)<1*(c.states.length:Int):=by omega
 have m3: ¬(c.states.length:Int)<0:=by omega
 have m4: ¬(281474976710656:Int)< (c.states.length:Int):=by omega
 unfold zaj at f0 f1;unfold zah at f0 |-;refine qf func141 call141 ntmps141 results141 ?_;have F:=ai4 m1 m2 m3 m4;repeat refine tz2 f0 f1 ?_
 refine zab (D:=Nat) (fun j vs=>[(5, .row 11 (vs 11)),(12, .seq 1 (act.map intAV)),(13,I act.length),(14,I j)]) (fun j _=>[(11,⟨1,flagA c.states.length (act.take j),4,true⟩)]) (fun j _ esc=>j<=act.length/\esc 11=false) (fun j=>act.length-j) 0 ?_ ?_ ?_ ?_
 ·exact⟨Nat.zero_le _,rfl⟩
 ·exact qe
 ·have F:=hz;exact qe
 rintro j ws esc ⟨hj,e0⟩;by_cases hlt:j<act.length
 ·obtain⟨x,hx⟩:=gE hlt;have q1:=nlt hlt;have q2:=zaa hlt (by omega);have ht:act.take (j+1)=act.take j++[x]:=by rw[List.take_add_one,hx];rfl
  have hfl:=zcv c.states.length (act.take j);by_cases h0:0<=x
  ·obtain⟨k,rfl⟩:=zdR h0;by_cases h1:k<c.states.length
   ·have q3:=nlt h1;have hs:=zus (act:=act.take j) h1;have hat:=ze3 (act:=act.take j) h1;rw[<-ht]at hs;have F:=ai8 hx q1 q2 q3 hat hs hfl e0;repeat refine st ?_
    refine⟨j+1,⟨hlt,by simp only[go_sem,e0]⟩,?_,?_,by omega⟩
    ·exact qe
    ·exact qe
   ·have q3: ¬(k:Int)< (c.states.length:Int):=by omega
    have hs:=zor (n:=c.states.length) (act:=act.take j) (i:=(k:Int)) (fun m hm=>by omega);rw[<-ht]at hs;have F:=ai6 hx q1 q2 q3 hfl e0;repeat refine st ?_
    refine⟨j+1,⟨hlt,by simp only[go_sem,e0]⟩,?_,?_,by omega⟩
    ·exact qe
    ·have F:=hs;exact qe
  ·have hs:=zor (n:=c.states.length) (act:=act.take j) (i:=x) (fun m hm=>by omega);rw[<-ht]at hs;have F:=ai6 hx q1 q2 h0 hfl e0;repeat refine st ?_
   refine⟨j+1,⟨hlt,by simp only[go_sem,e0]⟩,?_,?_,by omega⟩
   ·exact qe
   ·have F:=hs;exact qe
 ·obtain rfl:j=act.length:=by omega
  have q1:=nl act.length;have hta:act.take act.length=act:=List.take_length;have F:=ai3 q1 hta e0;repeat refine st ?_
  exact aR
theorem zjJ (env:Env) (n:Nat) (act:List Int) (ks:List Nat) (_hn:n<=4000) (hl:ks.length<=4000) (hk: ∀k∈ks,k<n):Con prog env 144 [.seq 1 (flagA n act), .seq 1 (ks.map zac)] (I (manyI act ks:Nat)):=by
 have hfl:=zcv n act;have z0:manyI act []=0:=rfl;refine qf func144 call144 ntmps144 results144 ?_;repeat refine st0 ?_
 refine zab (D:=Nat) (fun j _=>[(0, .seq 1 (flagA n act)),(5,I (manyI act (ks.take j):Nat)),(8, .seq 1 (ks.map zac)),(9,I ks.length),(10,I j)]) (fun _ _=>[]) (fun j _ _=>j<=ks.length) (fun j=>ks.length-j) 0 ?_ ?_ ?_ ?_
 ·exact Nat.zero_le _
 ·have F:=z0;exact qe
 ·(simp only[go_sem,z0])
 rintro j ws esc hj;by_cases hlt:j<ks.length
 ·obtain⟨k,hk2⟩:=gE hlt;have hkn:=hk k (List.mem_of_getElem? hk2);have q1:=nlt hlt;have q2:=zaa hlt (by omega);have q3:=nlt hkn;have hat:=ze3 (act:=act) hkn;have hm:=zmP (act:=act) hk2;have hle:=zmR act (ks.take j);rw[List.length_take]at hle;have q4:=zaa (show manyI act (ks.take j)<ks.length by omega) (by omega);cases hb:act.contains (k:Int) with
  | true=>
    rw[hb]at hat hm;rw[if_pos rfl]at hm;have F:=ai8 zac.eq_1 hk2 q1 q2 q3 q4 hat hfl;repeat refine st ?_
    refine⟨j+1,hlt,?_,?_,by omega⟩
    ·have F:=hm;exact qe
    ·(simp only[go_sem,hm])
  | false=>
    rw[hb]at hat hm;rw[if_neg Bool.false_ne_true,Nat.add_zero]at hm;have F:=ai7 zac.eq_1 hk2 q1 q2 q3 hat hfl;repeat refine st ?_
    refine⟨j+1,hlt,?_,?_,by omega⟩
    ·have F:=hm;exact qe
    ·(simp only[go_sem,hm])
 ·obtain rfl:j=ks.length:=by omega
  have q1:=nl ks.length;have hta:ks.take ks.length=ks:=List.take_length;have F:=ai q1 hta;repeat refine st ?_
  exact aR
theorem zrq {c:ChD} (h:Right c) {k:Nat} {s:StD} (hs:c.states[k]? =some s) (act:List Int):(s.parent<0/\decide (s.parent<0)=true)\/(¬s.parent<0/\decide (s.parent<0)=false/\0<=s.parent/\s.parent< (c.states.length:Int)/\(flagA c.states.length act)[s.parent.toNat]? =some [B (act.contains s.parent)]):=by
 have hi:=(List.getElem?_eq_some_iff.1 hs).1;have h2:=(h.par k s hs).2;by_cases e:s.parent<0
 ·exact .inl ⟨e,decide_eq_true e⟩
 ·refine .inr ⟨e,decide_eq_false e,by omega,by omega,?_⟩;rw[ze3 (by omega)];rw[show ((s.parent.toNat:Nat):Int)=s.parent by omega]
theorem zuu (env:Env) (c:ChD) (h:Full c) (act:List Int) (k:Nat) (s:StD) (hs:c.states[k]? =some s):Con prog env 142 [.agg (chAV c),zah c, .seq 1 (flagA c.states.length act),I k] (B (fitB c act k s)):=by
 have hlen:=h.few;have hi:=(List.getElem?_eq_some_iff.1 hs).1;have q0:((k:Nat):Int)< (c.states.length:Int):=by omega
 have f0:=zaN env c h k;rw[if_pos (.inr (zar.2 hi))]at f0;have hK:=zaS h.toRight k true;have hKm: ∀j∈kidsL c k true,j<c.states.length:=fun j hj=>by have:=zaJ h.toRight (zan hj).1;omega
 have f1:=zjJ env c.states.length act (kidsL c k true) (by omega) (by omega) hKm;have hfl:=zcv c.states.length act;have hp:=zrq h.toRight hs act;have hF:fitB c act k s=(!zaq s&&(decide (s.parent<0)||act.contains s.parent)&&(if s.kind=1/\kidsL c k true≠[] then manyI act (kidsL c k true)==1 else if s.kind=2 then manyI act (kidsL c k true)==(kidsL c k true).length else true)):=rfl;rw[hF];try clear hF
 generalize kidsL c k true=K at*;unfold zah at f0 |-;by_cases e4:s.kind=4
 ·have b4:(s.kind==4)=true:=by simpa using e4
  have hm:zaq s=true:=by unfold zaq;rw[b4];rfl
  rw[hm];refine qf func142 call142 ntmps142 results142 ?_;have F:=ai5 chAV.eq_1 stAV.eq_1 hs q0 b4;repeat refine tz1 f0 ?_
  exact aR
 have b4:(s.kind==4)=false:=by simpa using e4
 by_cases e5:s.kind=5
 ·have b5:(s.kind==5)=true:=by simpa using e5
  have hm:zaq s=true:=by unfold zaq;rw[b5,Bool.or_true]
  rw[hm];refine qf func142 call142 ntmps142 results142 ?_;have F:=ai6 chAV.eq_1 stAV.eq_1 hs q0 b4 b5;repeat refine tz1 f0 ?_
  exact aR
 have b5:(s.kind==5)=false:=by simpa using e5
 have hm:zaq s=false:=by unfold zaq;rw[b4,b5];rfl
 rw[hm];by_cases e1:s.kind=1
 ·have b1:(s.kind==1)=true:=by simpa using e1
  by_cases hk0:K=[]
  ·rw[if_neg (by simp[hk0]),if_neg (by omega)];have q1: ¬(0:Int)< (K.length:Int):=by rw[hk0];simp
   rcases hp with⟨g0,g1⟩|⟨g0,g1,g2,g3,g4⟩
   ·refine qf func142 call142 ntmps142 results142 ?_;have F:=ai10 chAV.eq_1 stAV.eq_1 hs q0 b4 b5 b1 q1 g0 g1;repeat refine tz1 f0 ?_
    exact aR
   ·refine qf func142 call142 ntmps142 results142 ?_;have F:=ai12 chAV.eq_1 stAV.eq_1 hs q0 b4 b5 b1 q1 g0 g1 g2<|ai3 g3 g4 hfl;repeat refine tz1 f0 ?_
    exact aR
  ·rw[if_pos ⟨e1,hk0⟩];have q1:(0:Int)< (K.length:Int):=by have:=List.length_pos_iff.2 hk0;omega
   by_cases hm1:manyI act K=1
   ·have hmi:((manyI act K:Nat):Int)=1:=by omega
    rw[hm1];rcases hp with⟨g0,g1⟩|⟨g0,g1,g2,g3,g4⟩
    ·refine qf func142 call142 ntmps142 results142 ?_;have F:=ai11 chAV.eq_1 stAV.eq_1 hs q0 b4 b5 b1 q1 hmi g0 g1;repeat refine tz2 f0 f1 ?_
     exact aR
    ·refine qf func142 call142 ntmps142 results142 ?_;have F:=ai12 chAV.eq_1 stAV.eq_1 hs q0 b4 b5 b1 q1 hmi g0 g1<|ai4 g2 g3 g4 hfl;repeat refine tz2 f0 f1 ?_
     exact aR
   ·have hmi:(((manyI act K:Nat):Int) != 1)=true:=by simp;omega
    have hmb:(manyI act K==1)=false:=by simpa using hm1
    rw[hmb];refine qf func142 call142 ntmps142 results142 ?_;have F:=ai9 chAV.eq_1 stAV.eq_1 hs q0 b4 b5 b1 q1 hmi;repeat refine tz2 f0 f1 ?_
    exact aR
 have b1:(s.kind==1)=false:=by simpa using e1
 rw[if_neg (fun e=>e1 e.1)];by_cases e2:s.kind=2
 ·have b2:(s.kind==2)=true:=by simpa using e2
  rw[if_pos e2];by_cases hm1:manyI act K=K.length
  ·have hmi:(((manyI act K:Nat):Int) != (K.length:Int))=false:=by simp;omega
   rw[hm1];rcases hp with⟨g0,g1⟩|⟨g0,g1,g2,g3,g4⟩
   ·refine qf func142 call142 ntmps142 results142 ?_;have F:=ai11 chAV.eq_1 stAV.eq_1 hs q0 b4 b5 b1 b2 hmi g0 g1;repeat refine tz2 f0 f1 ?_
    exact aR
   ·refine qf func142 call142 ntmps142 results142 ?_;have F:=ai12 chAV.eq_1 stAV.eq_1 hs q0 b4 b5 b1 b2 hmi g0 g1<|ai4 g2 g3 g4 hfl;repeat refine tz2 f0 f1 ?_
    exact aR
  ·have hmi:(((manyI act K:Nat):Int) != (K.length:Int))=true:=by simp;omega
   have hmb:(manyI act K==K.length)=false:=by simpa using hm1
   rw[hmb];refine qf func142 call142 ntmps142 results142 ?_;have F:=ai9 chAV.eq_1 stAV.eq_1 hs q0 b4 b5 b1 b2 hmi;repeat refine tz2 f0 f1 ?_
   exact aR
 ·have b2:(s.kind==2)=false:=by simpa using e2
  rw[if_neg e2];rcases hp with⟨g0,g1⟩|⟨g0,g1,g2,g3,g4⟩
  ·refine qf func142 call142 ntmps142 results142 ?_;have F:=ai10 chAV.eq_1 stAV.eq_1 hs q0 b4 b5 b1 b2 g0 g1;repeat refine tz1 f0 ?_
   exact aR
  ·refine qf func142 call142 ntmps142 results142 ?_;have F:=ai12 chAV.eq_1 stAV.eq_1 hs q0 b4 b5 b1 b2 g0 g1 g2<|ai3 g3 g4 hfl;repeat refine tz1 f0 ?_
   exact aR
theorem ztf (env:Env) (a1 a8:Addr) (he:ChEnv env a1 a8) (p:Int) (hp: -1<=p):Con prog env 143 [I p] (errV p (sentV a1)):=by
 have g1:=zfW he.e1;have f0:=znb env [108,101,103,97,108,46,67,104,101,99,107] p a1 hp;refine qf func143 call143 ntmps143 results143 ?_;have F:=g1;repeat refine tz1 f0 ?_
 exact aR
def chkE (a1:Addr) (c:ChD) (act:List Int):AV:=if lgB c act=true then nilE else errV (zfo c act).2 (sentV a1)
theorem zoL {a1:Addr} {c:ChD} {act:List Int} {p:Int} (h:zfo c act=(1,p)):chkE a1 c act=errV p (sentV a1):=by
 unfold chkE lgB;rw[h];rfl
theorem zwd {a1:Addr} {c:ChD} {act:List Int} {p:Int} (h:zfo c act=(0,p)):chkE a1 c act=nilE:=by
 unfold chkE lgB;rw[h];rfl
theorem zjL {c:ChD} {act:List Int} {j:Nat} {x:Int} (hx:act[j]? =some x):lgAt c act j=((j==0||decide (act.getD (j-1) 0<x))&&fitI c act x):=by unfold lgAt;rw[hx]
theorem zot {c:ChD} {act:List Int} {k:Nat} {s:StD} (hs:c.states[k]? =some s):fitI c act (k:Int)=fitB c act k s:=by
 unfold fitI;rw[zaM,hs];rfl
theorem zgO {c:ChD} {act:List Int} {x:Int} (hz:inZ c x=false):fitI c act x=false:=by
 unfold fitI at_;unfold inZ at hz;by_cases h0:0<=x
 ·rw[if_pos h0];rw[decide_eq_true h0,Bool.true_and,decide_eq_false_iff_not]at hz;rw[List.getElem?_eq_none (by omega)]
 ·rw[if_neg h0]
end
section
theorem zrk {act:List Int} {j:Nat} (h0:0<j) (hj:j<act.length):act[j-1]? =some (act.getD (j-1) 0):=by
 rw[List.getD_eq_getElem?_getD,List.getElem?_eq_getElem (show j-1<act.length by omega)];rfl
theorem zaW (l:List Int):zaL (l.map intC)=l.map intAV:=by
 unfold zaL;rw[List.map_map];rfl
end
section
theorem zs2 {act:List Int} {j:Nat} {x v:Int} (hx:act[j]? =some x) (hn:(act.take j).contains v=false) (he:x≠v):(act.take (j+1)).contains v=false:=by
 rw[List.take_add_one,hx];simp at hn |-;exact⟨hn,fun q=>he q.symm⟩
theorem zdC (env:Env) (act:List Int) (v:Int) (hl:act.length<=1000000):Con prog env 15 [.seq 1 (act.map intAV),I v] (B (act.contains v)):=by
 refine qf func15 call15 ntmps15 results15 ?_;repeat refine st0 ?_
 refine zab (D:=Nat) (fun j _=>[(0, .seq 1 (act.map intAV)),(1,I v),(5,I j)]) (fun _ _=>[]) (fun j _ _=>j<=act.length/\(act.take j).contains v=false) (fun j=>act.length-j) 0 ?_ ?_ ?_ ?_
 ·exact⟨Nat.zero_le _,rfl⟩
 ·exact qe0
 ·exact qe0
 rintro j ws esc ⟨hj,hno⟩;by_cases hlt:j<act.length
 ·obtain⟨x,hx⟩:=gE hlt;have q1:=nlt hlt;have q2:=zaa hlt (by omega);by_cases e:x=v
  ·have hr:act.contains v=true:=by rw[List.contains_iff_mem, <-e];exact List.mem_of_getElem? hx
   rw[hr];have q3:(x==v)=true:=by simpa using e
   have F:=ai3 hx q1 q3;repeat refine st ?_
   exact aR
  ·have q3:(x==v)=false:=by simpa using e
   have F:=ai4 hx q1 q2 q3;repeat refine st ?_
   refine⟨j+1,⟨hlt,zs2 hx hno e⟩,?_,?_,by omega⟩
   ·exact qe
   ·exact qe
 ·obtain rfl:j=act.length:=by omega
  have q1:=nl act.length;rw[List.take_length]at hno;rw[hno];have F:=q1;repeat refine st ?_
  exact aR
theorem zhh (env:Env) (act:List Int) (ks:List Nat) (hl:act.length<=1000000) (hk:ks.length<=4000):Con prog env 88 [.seq 1 (act.map intAV), .seq 1 (ks.map zac)] (I (manyI act ks:Nat)):=by
 have z0:manyI act []=0:=rfl;refine qf func88 call88 ntmps88 results88 ?_;repeat refine st0 ?_
 refine zab (D:=Nat) (fun j _=>[(0, .seq 1 (act.map intAV)),(1, .seq 1 (ks.map zac)),(5,I (manyI act (ks.take j):Nat)),(6,I j)]) (fun _ _=>[]) (fun j _ _=>j<=ks.length) (fun j=>ks.length-j) 0 ?_ ?_ ?_ ?_
 ·exact Nat.zero_le _
 ·have F:=z0;exact qe
 ·(simp only[go_sem,z0])
 rintro j ws esc hj;by_cases hlt:j<ks.length
 ·obtain⟨k,hk2⟩:=gE hlt;have q1:=nlt hlt;have q2:=zaa hlt (by omega);have f0:=zdC env act k hl;have hm:=zmP (act:=act) hk2;have hle:=zmR act (ks.take j);rw[List.length_take]at hle;have q4:=zaa (show manyI act (ks.take j)<ks.length by omega) (by omega);cases hb:act.contains (k:Int) with
  | true=>
    rw[hb]at f0 hm;rw[if_pos rfl]at hm;have F:=ai5 zac.eq_1 hk2 q1 q2 q4;repeat refine tz1 f0 ?_
    refine⟨j+1,hlt,?_,?_,by omega⟩
    ·have F:=hm;exact qe
    ·(simp only[go_sem,hm])
  | false=>
    rw[hb]at f0 hm;rw[if_neg Bool.false_ne_true,Nat.add_zero]at hm;have F:=ai4 zac.eq_1 hk2 q1 q2;repeat refine tz1 f0 ?_
    refine⟨j+1,hlt,?_,?_,by omega⟩
    ·have F:=hm;exact qe
    ·(simp only[go_sem,hm])
 ·obtain rfl:j=ks.length:=by omega
  have q1:=nl ks.length;have hta:ks.take ks.length=ks:=List.take_length;have F:=ai q1 hta;repeat refine st ?_
  exact aR
theorem zmC (env:Env) (c:ChD) (h:Full c) (act:List Int) (hl:act.length<=1000000) (k:Nat) (s:StD) (hs:c.states[k]? =some s):Con prog env 87 [.agg (chAV c), .seq 1 (act.map intAV),I k] (B (fitB c act k s)):=by
 have hlen:=h.few;have hi:=(List.getElem?_eq_some_iff.1 hs).1;have q0:((k:Nat):Int)< (c.states.length:Int):=by omega
 have f0:=zcK env c k true (by omega);have hK:=zaS h.toRight k true;have f1:=zhh env act (kidsL c k true) hl (by omega);have f2:=zby env s;have f3:=zdC env act s.parent hl;have hF:fitB c act k s=(!zaq s&&(decide (s.parent<0)||act.contains s.parent)&&(if s.kind=1/\kidsL c k true≠[] then manyI act (kidsL c k true)==1 else if s.kind=2 then manyI act (kidsL c k true)==(kidsL c k true).length else true)):=rfl;rw[hF];try clear hF
 generalize kidsL c k true=K at*;cases hm:zaq s with
 | true=>
   rw[hm]at f2;refine qf func87 call87 ntmps87 results87 ?_;have F:=ai4 chAV.eq_1 stAV.eq_1 hs q0;repeat refine tz1 f2 ?_
   exact aR
 | false=>
   rw[hm]at f2;by_cases hp:s.parent<0
   ·have g0: ¬0<=s.parent:=by omega
    rw[decide_eq_true hp];by_cases e1:s.kind=1/\K≠[]
    ·have b1:(s.kind==1)=true:=by simpa using e1.1
     have q1:(0:Int)< (K.length:Int):=by have:=List.length_pos_iff.2 e1.2;omega
     have q2:(((manyI act K:Nat):Int)==1)=(manyI act K==1):=by rw[Bool.eq_iff_iff,beq_iff_eq,beq_iff_eq];omega
     rw[if_pos e1];refine qf func87 call87 ntmps87 results87 ?_;have F:=ai8 chAV.eq_1 stAV.eq_1 hs q0 g0 b1 q1 q2;repeat refine tz3 f0 f1 f2 ?_
     exact aR
    ·rw[if_neg e1];have q2:(((manyI act K:Nat):Int)==(K.length:Int))=(manyI act K==K.length):=by rw[Bool.eq_iff_iff,beq_iff_eq,beq_iff_eq];omega
     by_cases e2:s.kind=2
     ·have b1:(s.kind==1)=false:=by simp[e2]
      have b2:(s.kind != 2)=false:=by simp[e2]
      rw[if_pos e2];refine qf func87 call87 ntmps87 results87 ?_;have F:=ai8 chAV.eq_1 stAV.eq_1 hs q0 g0 b1 b2 q2;repeat refine tz3 f0 f1 f2 ?_
      exact aR
     ·have b2:(s.kind != 2)=true:=by simpa using e2
      rw[if_neg e2];by_cases e3:s.kind=1
      ·have b1:(s.kind==1)=true:=by simpa using e3
       have q1: ¬(0:Int)< (K.length:Int):=by
        have:K=[]:=Classical.byContradiction fun q=>e1 ⟨e3,q⟩;rw[this];simp
       refine qf func87 call87 ntmps87 results87 ?_;have F:=ai8 chAV.eq_1 stAV.eq_1 hs q0 g0 b1 b2 q1;repeat refine tz3 f0 f1 f2 ?_
       exact aR
      ·have b1:(s.kind==1)=false:=by simpa using e3
       refine qf func87 call87 ntmps87 results87 ?_;have F:=ai7 chAV.eq_1 stAV.eq_1 hs q0 g0 b1 b2;repeat refine tz3 f0 f1 f2 ?_
       exact aR
   ·have g0:0<=s.parent:=by omega
    rw[decide_eq_false hp];cases hin:act.contains s.parent with
    | false=>
      rw[hin]at f3;refine qf func87 call87 ntmps87 results87 ?_;have F:=ai5 chAV.eq_1 stAV.eq_1 hs q0 g0;repeat refine tz4 f0 f1 f2 f3 ?_
      exact aR
    | true=>
      rw[hin]at f3;by_cases e1:s.kind=1/\K≠[]
      ·have b1:(s.kind==1)=true:=by simpa using e1.1
       have q1:(0:Int)< (K.length:Int):=by have:=List.length_pos_iff.2 e1.2;omega
       have q2:(((manyI act K:Nat):Int)==1)=(manyI act K==1):=by rw[Bool.eq_iff_iff,beq_iff_eq,beq_iff_eq];omega
       rw[if_pos e1];refine qf func87 call87 ntmps87 results87 ?_;have F:=ai8 chAV.eq_1 stAV.eq_1 hs q0 g0 b1 q1 q2;repeat refine tz4 f0 f1 f2 f3 ?_
       exact aR
      ·rw[if_neg e1];have q2:(((manyI act K:Nat):Int)==(K.length:Int))=(manyI act K==K.length):=by rw[Bool.eq_iff_iff,beq_iff_eq,beq_iff_eq];omega
       by_cases e2:s.kind=2
       ·have b1:(s.kind==1)=false:=by simp[e2]
        have b2:(s.kind != 2)=false:=by simp[e2]
        rw[if_pos e2];refine qf func87 call87 ntmps87 results87 ?_;have F:=ai8 chAV.eq_1 stAV.eq_1 hs q0 g0 b1 b2 q2;repeat refine tz4 f0 f1 f2 f3 ?_
        exact aR
       ·have b2:(s.kind != 2)=true:=by simpa using e2
        rw[if_neg e2];by_cases e3:s.kind=1
        ·have b1:(s.kind==1)=true:=by simpa using e3
         have q1: ¬(0:Int)< (K.length:Int):=by
          have:K=[]:=Classical.byContradiction fun q=>e1 ⟨e3,q⟩;rw[this];simp
         refine qf func87 call87 ntmps87 results87 ?_;have F:=ai8 chAV.eq_1 stAV.eq_1 hs q0 g0 b1 b2 q1;repeat refine tz4 f0 f1 f2 f3 ?_
         exact aR
        ·have b1:(s.kind==1)=false:=by simpa using e3
         refine qf func87 call87 ntmps87 results87 ?_;have F:=ai7 chAV.eq_1 stAV.eq_1 hs q0 g0 b1 b2;repeat refine tz4 f0 f1 f2 f3 ?_
         exact aR
end
section
def zs5 (ps:List Int) (e:AV):AV:=ps.foldr (fun p x=>errV p x) e
theorem zgB (env:Env) (s:List UInt8) (p:Int) (e:AV):Con prog env 36 [Sg s,errV p e] (errV (-1) (errV p e)):=by
 refine qw func36 call36 ntmps36 results36 ?_;repeat refine st0 ?_
 (refine zal ?_;refine⟨_,(by show (zaG _ _ _).run _=some _;simp only[go_sem];rfl),?_⟩)
 exact zfy _ _ _ rfl _ _ (.refl _)
theorem zuB (env:Env) (s:List UInt8) (p:Int) (a:Addr):Con prog env 148 [Sg s,I p,sentV a] (errV (max p (-1)) (sentV a)):=by
 refine Con.args (cs:=[Sg s,I p, .iface 309 (.lit (.pointer (some a)))]) ?_ (.cons (.refl _) (.cons (.refl _) (.cons (.ifl _ _) .nil)));by_cases h1:p< -1
 ·rw[show max p (-1)= -1 by omega];refine qw func148 call148 ntmps148 results148 ?_;have F:=h1;repeat refine st ?_
  (refine zal ?_;refine⟨_,(by show (zaG _ _ _).run _=some _;simp only[go_sem,F];rfl),?_⟩)
  exact zfy _ _ _ rfl _ _ (.lfi _ _)
 ·rw[show max p (-1)=p by omega];refine qw func148 call148 ntmps148 results148 ?_;have F:=h1;repeat refine st ?_
  (refine zal ?_;refine⟨_,(by show (zaG _ _ _).run _=some _;simp only[go_sem,F];rfl),?_⟩)
  exact zfy _ _ _ rfl _ _ (.lfi _ _)
theorem zqf (env:Env) (a1 a8:Addr) (he:ChEnv env a1 a8) (p:Int):Con prog env 143 [I p] (errV (max p (-1)) (sentV a1)):=by
 have g1:=zfW he.e1;have f0:=zuB env [108,101,103,97,108,46,67,104,101,99,107] p a1;refine qf func143 call143 ntmps143 results143 ?_;have F:=g1;repeat refine tz1 f0 ?_
 exact aR
theorem ziI {c:ChD} {act:List Int} {j:Nat} {x:Int} (hx:act[j]? =some x) (hall: ∀m,m<j->lgAt c act m=true) (hb:lgAt c act j=false):zfo c act=(1,max x (-1)):=by
 have hj:=(List.getElem?_eq_some_iff.1 hx).1;unfold zfo;rw[zbC hj hall hb];simp only[List.getD_eq_getElem?_getD,hx,Option.getD_some]
theorem zbg (env:Env) (a1 a8:Addr) (he:ChEnv env a1 a8) (c:ChD) (h:Full c) (hsm:Small c) (act:List Int) (hl:act.length<=1000000):Con prog env 79 [zah c, .seq 1 (act.map intAV)] (chkE a1 c act):=by
 have hlen:=h.few;have f0:=zas env c hsm;have f1:=zei env c (by omega) act hl;have f2:=fun(k:Nat) (s:StD) (hs:c.states[k]? =some s)=>zuu env c h act k s hs;have f3:=zaN env c h (-1);rw[if_pos (.inl rfl)]at f3;have hK:=zaS h.toRight (-1) true;have hKm: ∀j∈kidsL c (-1) true,j<c.states.length:=fun j hj=>by have:=zaJ h.toRight (zan hj).1;omega
 have f4:=zjJ env c.states.length act (kidsL c (-1) true) (by omega) (by omega) hKm;have fb:=ztf env a1 a8 he (-1) (by omega);have hfl:=zcv c.states.length act;unfold zah at f0 f1 f2 f3 |-;refine qf func79 call79 ntmps79 results79 ?_;have F:=chAV.eq_1;repeat refine tz2 f0 f1 ?_
 refine zab (D:=Nat) (fun j vs=>[(0, .ref 9 [tabCells c] 0 0),(1, .seq 1 (act.map intAV)),(5, .loc 5 (vs 5) 0 0),(6, .row 17 (vs 17)),(18, .seq 1 (act.map intAV)),(19,I act.length),(20,I j)]) (fun _ _=>[(5,⟨5,[chAV c],26,false⟩),(17,⟨1,flagA c.states.length act,4,true⟩)]) (fun j _ _=>j<=act.length/\ ∀m,m<j->lgAt c act m=true) (fun j=>act.length-j) 0 ?_ ?_ ?_ ?_
 ·exact⟨Nat.zero_le _,fun m hm=>absurd hm (by omega)⟩
 ·exact qe
 ·have F:=chAV.eq_1
  (simp only[go_sem,F])
  try rfl
 rintro j ws esc ⟨hj,hall⟩;by_cases hlt:j<act.length
 ·obtain⟨x,hx⟩:=gE hlt;have q1:=nlt hlt;have q2:=zaa hlt (by omega);have hat:=zjL (c:=c) hx;have fx:=zqf env a1 a8 he x;have bad:lgAt c act j=false->chkE a1 c act=errV (max x (-1)) (sentV a1):=fun hb=>zoL (ziI hx hall hb);by_cases h0:x<0
  ·rw[bad (by rw[hat,zgO (by unfold inZ;rw[decide_eq_false (by omega)];rfl),Bool.and_false])];have F:=ai3 hx q1 h0;repeat refine tz1 fx ?_
   exact aR
  obtain⟨k,rfl⟩:=zdR (show 0<=x by omega);by_cases h1:(c.states.length:Int)<=k
  ·rw[bad (by rw[hat,zgO (by unfold inZ;rw[decide_eq_false (p:=(k:Int)<_) (by omega),Bool.and_false]),Bool.and_false])];have F:=ai5 hx q1 h0 h1 hfl;repeat refine tz1 fx ?_
   exact aR
  obtain⟨s,hs⟩: ∃s,c.states[k]? =some s:=⟨c.states[k]'(by omega),List.getElem?_eq_getElem _⟩;have f2:=f2 k s hs;rw[zot hs]at hat;by_cases hj0:0<j
  ·have q3:(0:Int)< (j:Int):=by omega
   have q4:IntKind.i64.wrap ((j:Int)-1)=((j-1:Nat):Int):=by rw[zaw (by omega) (by omega)];omega
   have hy:=zrk hj0 hlt;have q5:((j-1:Nat):Int)< (act.length:Int):=by omega
   have b0:(j==0)=false:=by simp;omega
   generalize act.getD (j-1) 0=y at*;by_cases h2:(k:Int)<=y
   ·rw[bad (by rw[hat,b0,decide_eq_false (by omega)];rfl)];have F:=ai10 hx q1 h0 h1 hfl q3 q4 q5 hy h2;repeat refine tz1 fx ?_
    exact aR
   cases hb:fitB c act k s with
   | false=>
     rw[hb]at f2 hat;rw[bad (by rw[hat,Bool.and_false])];have F:=ai11 chAV.eq_1 hx q1 h0 h1 hfl q3 q4 q5 hy h2;repeat refine tz2 f2 fx ?_
     exact aR
   | true=>
     rw[hb,b0,decide_eq_true (show y< (k:Int) by omega)]at hat;rw[hb]at f2;have F:=ai12 chAV.eq_1 hx q1 q2 h0 h1 hfl q3 q4 q5 hy h2;repeat refine tz1 f2 ?_
     refine⟨j+1,⟨hlt,fun m hm=>by rcases Nat.lt_succ_iff_lt_or_eq.1 hm with e|e;exact hall m e;rw[e];exact hat⟩,?_,?_,by omega⟩
     ·exact qe
     ·have F:=chAV.eq_1;exact qe
  ·have q3: ¬(0:Int)< (j:Int):=by omega
   have b0:(j==0)=true:=by simp;omega
   cases hb:fitB c act k s with
   | false=>
     rw[hb,b0]at hat;rw[hb]at f2;rw[bad (by rw[hat,Bool.and_false])];have F:=ai7 chAV.eq_1 hx q1 h0 h1 hfl q3;repeat refine tz2 f2 fx ?_
     exact aR
   | true=>
     rw[hb,b0]at hat;rw[hb]at f2;have F:=ai8 chAV.eq_1 hx q1 q2 h0 h1 hfl q3;repeat refine tz1 f2 ?_
     refine⟨j+1,⟨hlt,fun m hm=>by rcases Nat.lt_succ_iff_lt_or_eq.1 hm with e|e;exact hall m e;rw[e];exact hat⟩,?_,?_,by omega⟩
     ·exact qe
     ·have F:=chAV.eq_1;exact qe
 ·obtain rfl:j=act.length:=by omega
  have q1:=nl act.length
  have hc1:zfo c act=if manyI act (kidsL c (-1) true)=1 then(0, -1) else(1, -1):=by
   unfold zfo;rw[zaz hall]
  by_cases hm:manyI act (kidsL c (-1) true)=1
  ·rw[if_pos hm]at hc1;rw[zwd hc1];have hmi:((manyI act (kidsL c (-1) true):Nat):Int)=1:=by omega
   have F:=ai q1 hmi;repeat refine tz2 f3 f4 ?_
   exact aR
  ·rw[if_neg hm]at hc1;rw[zoL hc1];have hmi:(((manyI act (kidsL c (-1) true):Nat):Int) != 1)=true:=by simp;omega
   have F:=ai q1 hmi;repeat refine tz3 f3 f4 fb ?_
   exact aR
theorem zjx (env:Env) (c:ChD) (h:Full c) (act:List Int) (hl:act.length<=1000000):Con prog env 43 [.agg (chAV c), .seq 1 (act.map intAV)] (.tuple [I (zfo c act).1,I (zfo c act).2]):=by
 have hlen:=h.few;have f3:=zcK env c (-1) true (by omega);have hK:=zaS h.toRight (-1) true;have f4:=zhh env act (kidsL c (-1) true) hl (by omega);refine qf func43 call43 ntmps43 results43 ?_;have F:=chAV.eq_1;repeat refine st ?_
 refine zab (D:=Nat) (fun j vs=>[(1, .seq 1 (act.map intAV)),(2, .loc 2 (vs 2) 0 0),(6,I j)]) (fun _ _=>[(2,⟨5,[chAV c],26,false⟩)]) (fun j _ _=>j<=act.length/\ ∀m,m<j->lgAt c act m=true) (fun j=>act.length-j) 0 ?_ ?_ ?_ ?_
 ·exact⟨Nat.zero_le _,fun m hm=>absurd hm (by omega)⟩
 ·exact qe
 ·have F:=chAV.eq_1
  (simp only[go_sem,F])
  try rfl
 rintro j ws esc ⟨hj,hall⟩;by_cases hlt:j<act.length
 ·obtain⟨x,hx⟩:=gE hlt;have q1:=nlt hlt;have q2:=zaa hlt (by omega);have q6:max x (-1)=if x< -1 then -1 else x:=by split<;>omega
  have hat:=zjL (c:=c) hx;have f0:=zmB env c x;have bad:lgAt c act j=false->zfo c act=(1,max x (-1)):=fun hb=>ziI hx hall hb;cases hz:inZ c x with
  | false=>
    rw[hz]at f0;rw[bad (by rw[hat,zgO hz,Bool.and_false])];have F:=ai4 chAV.eq_1 hx q1 q6;repeat refine tz1 f0 ?_
    exact aR
  | true=>
    rw[hz]at f0;obtain⟨k,s,rfl,hs,ha⟩:=zb9 hz;have f2:=zmC env c h act hl k s hs;rw[zot hs]at hat;by_cases hj0:0<j
    ·have q3:(0:Int)< (j:Int):=by omega
     have q4:IntKind.i64.wrap ((j:Int)-1)=((j-1:Nat):Int):=by rw[zaw (by omega) (by omega)];omega
     have hy:=zrk hj0 hlt;have q5:((j-1:Nat):Int)< (act.length:Int):=by omega
     have b0:(j==0)=false:=by simp;omega
     generalize act.getD (j-1) 0=y at*;by_cases h2:(k:Int)<=y
     ·rw[bad (by rw[hat,b0,decide_eq_false (by omega)];rfl)];have F:=ai9 chAV.eq_1 hx q1 q3 q4 q5 q6 hy h2;repeat refine tz1 f0 ?_
      exact aR
     cases hb:fitB c act k s with
     | false=>
       rw[hb]at f2 hat;rw[bad (by rw[hat,Bool.and_false])];have F:=ai9 chAV.eq_1 hx q1 q3 q4 q5 q6 hy h2;repeat refine tz2 f0 f2 ?_
       exact aR
     | true=>
       rw[hb,b0,decide_eq_true (show y< (k:Int) by omega)]at hat;rw[hb]at f2;have F:=ai9 chAV.eq_1 hx q1 q2 q3 q4 q5 hy h2;repeat refine tz2 f0 f2 ?_
       refine⟨j+1,⟨hlt,fun m hm=>by rcases Nat.lt_succ_iff_lt_or_eq.1 hm with e|e;exact hall m e;rw[e];exact hat⟩,?_,?_,by omega⟩
       ·exact qe
       ·have F:=chAV.eq_1;exact qe
    ·have q3: ¬(0:Int)< (j:Int):=by omega
     have b0:(j==0)=true:=by simp;omega
     cases hb:fitB c act k s with
     | false=>
       rw[hb,b0]at hat;rw[hb]at f2;rw[bad (by rw[hat,Bool.and_false])];have F:=ai5 chAV.eq_1 hx q1 q3 q6;repeat refine tz2 f0 f2 ?_
       exact aR
     | true=>
       rw[hb,b0]at hat;rw[hb]at f2;have F:=ai5 chAV.eq_1 hx q1 q2 q3;repeat refine tz2 f0 f2 ?_
       refine⟨j+1,⟨hlt,fun m hm=>by rcases Nat.lt_succ_iff_lt_or_eq.1 hm with e|e;exact hall m e;rw[e];exact hat⟩,?_,?_,by omega⟩
       ·exact qe
       ·have F:=chAV.eq_1;exact qe
 ·obtain rfl:j=act.length:=by omega
  have q1:=nl act.length
  have hc1:zfo c act=if manyI act (kidsL c (-1) true)=1 then(0, -1) else(1, -1):=by
   unfold zfo;rw[zaz hall]
  rw[hc1];by_cases hm:manyI act (kidsL c (-1) true)=1
  ·rw[if_pos hm];have hmi:((manyI act (kidsL c (-1) true):Nat):Int)=1:=by omega
   have F:=ai3 chAV.eq_1 q1 hmi;repeat refine tz2 f3 f4 ?_
   exact aR
  ·rw[if_neg hm];have hmi:(((manyI act (kidsL c (-1) true):Nat):Int) != 1)=true:=by simp;omega
   have F:=ai3 chAV.eq_1 q1 hmi;repeat refine tz2 f3 f4 ?_
   exact aR
end
section
theorem Turned.frozen {s:St} (r t:Nat) (row:Row) (hp:row.pure=true) (hrz:row.sz≠0) (hr:s.rows r=some row) (ht:s.f t= .row r (s.vs r)):Turned s ((s.show r).put (some t) (.seq row.sz row.es)):=fun x a w m hS=>by
 obtain⟨S',q1,q2,q3⟩:=hS.show r row hr hrz hp;have hv:=hS.slot t;rw[ht]at hv;have hv1:a.tmps.getD t undef=m.ρ r:=hv.row_.2 rfl row hr;exact⟨_,q1.tell t (.seq row.sz row.es) (by rw[hv1];exact .val q3)⟩
theorem Turned.nil {s:St} (t sz:Nat) (ht:s.f t= .lit (.slice none 0 0)):Turned s (s.put (some t) (.seq sz [])):=fun x a w m hS=>by
 have hv:=hS.slot t;rw[ht]at hv;have hv1:=hv.lit_;exact⟨_,hS.tell t (.seq sz []) (by rw[hv1];exact .val (Str.nil sz _ _ _ (.lit _)))⟩
section
variable {P:Program} {env:Env} {nt:Nat} {s:St}
theorem zwk {c rest:Code} {Q':Exit->St->Prop} {D:Type} (F:D->(Nat->Nat)->List (Nat×AV)) (R:D->(Nat->Nat)->List (Nat×Row)) (inv:D->(Nat->Nat)->(Nat->Bool)->Prop)
 (h1:awp P env nt c (zcV (fun s=> ∃d,inv d s.vs s.esc/\zer s (F d s.vs)/\zdP s (R d s.vs)) Q') s) (h2: ∀d vs esc,inv d vs esc->awp P env nt rest Q' (head (F d vs) (R d vs) vs esc)):
 awp P env nt c (zcV (awp P env nt rest Q') Q') s:=
 zoR h1 fun e s hq=>by
  cases e with
  | normal=>
    obtain⟨d,q1,q2,q3⟩:=hq;exact zgU _ _ q2 q3 (h2 d _ _ q1)
  |_=>exact hq
end
def zvQ (Q:Exit->St->Prop):Exit->St->Prop
 | .goto _,_=>False
 |e,s=>Q e s
theorem zbH {P:Program} {b:Frame} {a:Act} {k:List Item} {cs:List Frame} {w:World} {c:Code} :step P (lone (b.atR a (.code (.scope c)::k)) cs w)= .next (lone (b.atR a (.code c:: .inScope c::k)) cs w):=
 step_lone_go (by simp[stepG,stepG.exec,Frame.atR])
theorem zie {P:Program} {b:Frame} {a:Act} {k:List Item} {cs:List Frame} {w:World} {c:Code} :step P (lone (b.atR a (.inScope c::k)) cs w)= .next (lone (b.atR a k) cs w):=
 step_lone_go (by simp[stepG,stepG.exec,Frame.atR])
theorem zl8 {F:Fence} {n:Nat} {P:Program} {Q:Exit->Act->World->Prop} {a:Act} {w:World} {c:Code} (h:c.wpIn F n P (Exit.noGoto Q) a w):(Code.scope c).wpIn F n P Q a w:=by
 intro b k cs hro hb hr;have h0:(lone (b.atR a (.code (.scope c)::k)) cs w).fenced P F:=fenced_calm hb hr rfl;obtain⟨e,a₁,w₁,hq,harr⟩:=h b (.inScope c::k) cs hro hb hr;cases e with
 |normal=>exact⟨.normal,a₁,w₁,hq, .head h0 zbH (StepsIn.trans harr (.one (fenced_calm hb hr rfl) zie))⟩
 | exit id=>
   have hx:exitTo id (.inScope c::k)=exitTo id k:=by simp[exitTo]
   exact⟨.exit id,a₁,w₁,hq,fun k' hk=> .head h0 zbH (harr.1 k' (by rw[hx];exact hk)),
    fun hr' hk=>let ⟨k₁,h1,h2⟩:=harr.2 hr' (by rw[hx];exact hk);⟨k₁,h1, .head h0 zbH h2⟩⟩
 |goto l=>exact hq.elim
 |ret=>exact⟨_,a₁,w₁,hq, .of_steps (.one h0 zbH) harr⟩
 |panic ch=>exact⟨_,a₁,w₁,hq, .of_steps (.one h0 zbH) harr⟩
 |outgrown=>exact⟨_,a₁,w₁,hq, .of_steps (.one h0 zbH) harr⟩
theorem ztg {P:Program} {env:Env} {nt:Nat} {Q:Exit->St->Prop} {s:St} {c:Code} (h:awp P env nt c (zvQ Q) s):awp P env nt (.scope c) Q s:=fun ro x he hn a w m hS=>
 zl8 (wpIn_mono (h ro x he hn a w m hS) fun e a' w' ⟨s',m',q,hs⟩=>by
  cases e with
  |goto l=>exact q.elim
  |_=>exact⟨s',m',q,hs⟩)
end

end Go.Proofs.YtbpmkofnfgdegaaGreatDoor