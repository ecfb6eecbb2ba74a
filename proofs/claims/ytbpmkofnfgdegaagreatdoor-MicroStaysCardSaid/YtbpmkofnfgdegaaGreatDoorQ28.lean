/- The document's word on a step. -/
import Derived.Test.YtbpmkofnfgdegaaGreatDoorQ26
import Derived.Test.YtbpmkofnfgdegaaGreatDoorQ8
import Derived.Test.YtbpmkofnfgdegaaGreatDoorQ6
import Derived.Test.YtbpmkofnfgdegaaGreatDoorQ11
import Derived.Test.YtbpmkofnfgdegaaGreatDoorQ27
import Derived.Test.YtbpmkofnfgdegaaGreatDoorQ22
import Derived.Test.YtbpmkofnfgdegaaGreatDoorQ24
import Derived.Test.YtbpmkofnfgdegaaGreatDoorQ5
import Derived.Test.YtbpmkofnfgdegaaGreatDoorQ14
import Derived.Test.YtbpmkofnfgdegaaGreatDoorQ9
import Derived.Test.YtbpmkofnfgdegaaGreatDoorQ25
import Derived.Test.YtbpmkofnfgdegaaGreatDoorQ20
import Derived.Test.YtbpmkofnfgdegaaGreatDoorQ19
set_option maxRecDepth 100000
set_option maxHeartbeats 16000000
set_option linter.unusedSimpArgs false
namespace Go.Proofs.YtbpmkofnfgdegaaGreatDoor
open Go.Proofs.Tryz
open Go.RowKit
section
theorem znz (env:Env) (a1 a8:Addr) (he:ChEnv env a1 a8) (c:ChD) (h:Full c) (hs:Small c) (act:List Int) (hl:act.length<=1000000) (k:Nat) (t:TrD) (ht:c.trans[k]? =some t) (hb:lgB c act=true) (h0:t.target<0):
 ConI prog env 73 [1001] (fun _=>false) (fun g=>[zah c, .row 1001 (g 1001),I k]) (fun _=>[(1001,⟨1,act.map intAV,3,true⟩)]) (fun _=>[(1001,⟨1,act.map intAV,3,true⟩)]) (fun _=> .tuple [nilS,nilE]):=by
 have f0:=zbg env a1 a8 he c h hs act hl;have f1:=zgD env c hs k t ht;unfold chkE at f0;rw[hb]at f0;simp only[if_true]at f0;have f0:=f0.lend rfl;unfold trAV at f1;unfold zah at f0 f1 |-;refine qi func73 call73 ntmps73 results73 ?_;intro vs esc hesc;have e0:=hesc 1001 (by simp);have F:=ai h0 e0;repeat refine st ?_
 refine lL f0 ?_;repeat refine tz1 f1 ?_
 exact rI
theorem zso {c:ChD} {act:List Int} {ts:List Nat} {j n:Nat} {t:TrD} (hn:ts[j]? =some n) (ht:c.trans[n]? =some t):goneR c act (ts.take (j+1))=goneR c act (ts.take j)++leaveR c act t:=by
 unfold goneR;rw[zbb hn,List.flatMap_append];simp[zci ht]
theorem zqK {c:ChD} {mem:List MemD} {ts:List Nat} {j n:Nat} {t:TrD} (hn:ts[j]? =some n) (ht:c.trans[n]? =some t):toR c mem (ts.take (j+1))=toR c mem (ts.take j)++targetR c t mem:=by
 unfold toR;rw[zbb hn,List.flatMap_append];simp[zci ht]
theorem ztt {c:ChD} {d now:Int} {r:RunD} {l:List Nat} {j n:Nat} {t:TrD} (hn:l[j]? =some n) (ht:c.trans[n]? =some t):zeq c d now r (l.drop j)=match allP c d now r t.acts with
 |(r1,none)=>zeq c d now r1 (l.drop (j+1))
 |x=>x:=by
 rw[zaQ hn]
 conv=>lhs;unfold zeq
 rw[zci ht];rcases allP c d now r t.acts with⟨r1,_|_⟩<;>rfl
theorem zvD {c:ChD} (h:Full c) {n:Nat} {t:TrD} (ht:c.trans[n]? =some t):t.acts.length<=32/\ ∀a∈t.acts,actB c.vars.length c.states.length a=true:=by
 have:=h.tr n t ht;unfold zch zcZ at this;simp only[Bool.and_eq_true,decide_eq_true_eq,List.all_eq_true]at this;exact this.1.2
theorem zop {c:ChD} (h:Full c) (act:List Int): ∀ts:List Nat,(goneR c act ts).length<=32*ts.length
 |[]=>Nat.zero_le _
 | n::ts=>by
   have:=zop h act ts;have h2:=zfp h act (trAt c n);unfold goneR at this |-;rw[List.flatMap_cons,List.length_append,List.length_cons];omega
theorem zu9 {c:ChD} (h:Full c) (mem:List MemD): ∀ts:List Nat,(toR c mem ts).length<=32*ts.length
 |[]=>Nat.zero_le _
 | n::ts=>by
   have:=zu9 h mem ts
   have h2:(targetR c (trAt c n) mem).length<=32:=by
    unfold targetR tgtL;split
    ·exact Nat.zero_le _
    ·exact zdg h.toRight _
   unfold toR at this |-;rw[List.flatMap_cons,List.length_append,List.length_cons];omega
theorem ztM (env:Env) (a1 a2 a8:Addr) (c:ChD) (d now:Int) (E:RunEnv env a1 a2 a8 c d now) (r:RunD) (hr:RunOk c r) (hl:r.act.length<=100) (hb:lgB c r.act=true) (hm:zbd c r.mem=true) (hml:r.mem.length<=1000000) (hFm: ∀m∈r.mem,Fits m.2.length 8) (ts:List Nat) (hts: ∀n∈ts,∃t,c.trans[n]? =some t) (htl:ts.length<=64)
 (hgo: ∀x∈zL (sortL c (goneR c r.act ts)),x∈r.act) (hmem:zbd c (remL c r.act (zL (sortL c (goneR c r.act ts))) r.mem)=true) (hmem2:(remL c r.act (zL (sortL c (goneR c r.act ts))) r.mem).length<=1000000/\ ∀m∈remL c r.act (zL (sortL c (goneR c r.act ts))) r.mem,Fits m.2.length 8)
 (hleg: ∀r2:RunD,RunOk c r2->r2.act=r.act.filter (fun k=> !(zL (sortL c (goneR c r.act ts))).reverse.contains k)->(zaK c d now r2 [] (zL (sortL c (zL (toR c (remL c r.act (zL (sortL c (goneR c r.act ts))) r.mem) ts))))).1.2=none->lgB c (zaK c d now r2 [] (zL (sortL c (zL (toR c (remL c r.act (zL (sortL c (goneR c r.act ts))) r.mem) ts))))).1.1.act=true):
 ConI prog env 35 [1000,1001,1002,1003,1004,1005] gr5 (fun g=>[.loc 1000 (g 1000) 0 0, .seq 1 (ts.map zac)]) (RY c d now r) (RY c d now (stepP c d now r ts).1) (fun _=>errA a2 a8 (stepP c d now r ts).2):=by
 have hfew:=E.h.few;have hftr:=E.h.ftr;have hA:=zcg E.h;have hrise:=(zc4 hb).rise;have fT:=zaE env c;have fL:=fun(n:Nat) (t:TrD) (ht:c.trans[n]? =some t) (h0: ¬t.target<0)=>zqn env a1 a8 E.he c E.h E.hs r.act (by omega) n t ht hb h0;have fL0:=fun(n:Nat) (t:TrD) (ht:c.trans[n]? =some t) (h0:t.target<0)=>znz env a1 a8 E.he c E.h E.hs r.act (by omega) n t ht hb h0;have hlf:=fun t=>zfp E.h r.act t;have hgl:=zop E.h r.act;have fS:=(zcG env c E.h.toRight (goneR c r.act ts) (by have:=hgl ts;omega)).lend (za4 (fun _=>rfl) _);have hSl:=zdg E.h.toRight (goneR c r.act ts);have hSk:=fun(k:Nat) (hk:k∈sortL c (goneR c r.act ts))=>zjm E.h.toRight hk;have fR:=zko env a1 a8 E.he c E.h E.hs r.act (zL (sortL c (goneR c r.act ts))) (by omega) (by rw[za9];omega) r.mem hml hFm hb hm hgo;rw[zcF]at fR;unfold stepP;simp only;generalize hM:remL c r.act (zL (sortL c (goneR c r.act ts))) r.mem=mem at*;generalize hGG:sortL c (goneR c r.act ts)=G at*;have fTg:=fun(n:Nat) (t:TrD) (ht:c.trans[n]? =some t)=>zql env a1 a8 E.he c E.h E.hs mem hmem2.1 hmem2.2 n t ht hmem;have hto:=zu9 E.h mem;have hrev:(zL G).reverse=zL G.reverse:=by unfold zL;rw[List.map_reverse]
 rw[hrev]at hleg |-;have fLv:=zrU env a1 a2 a8 c d now E { r with mem:=mem } { hr with } (by simp only;omega) G hSk (by omega);have kL:=zjM hA (l:=zL G.reverse) E.hd E.hn (r:={ r with mem:=mem }) { hr with };have hal:=fun(r:RunD) hr hl (l:List ActD) hll ha=>znx env a1 a2 a8 c d now E r hr hl l hll ha;have hok:=fun(r:RunD) (hr:RunOk c r) (l:List ActD) ha=>zgt E.hd E.hn (l:=l) hr ha;have fS2:=((zcG env c E.h.toRight (zL (toR c mem ts)) (by rw[za9];have:=hto ts;omega)).lend (za4 (fun _=>rfl) _)).seen;rw[zcF]at fS2;have hS2l:=zdg E.h.toRight (zL (toR c mem ts));have hS2k:=fun(k:Nat) (hk:k∈sortL c (zL (toR c mem ts)))=>zjm E.h.toRight hk;have hen:=fun(r2:RunD) hr hrise hl hleg=>zlM env a1 a2 a8 c d now E r2 hr hrise hl (sortL c (zL (toR c mem ts))) hS2k (by omega) hleg;generalize hTT:sortL c (zL (toR c mem ts))=T2 at*;unfold zaj at fT fS fS2;unfold zah at fT fL fL0 fR fTg;refine qi func35 call35 ntmps35 results35 ?_;intro vs esc hesc;obtain⟨e0,e1,e2,e3,e4,e5⟩:=es6 hesc;have F:=ai9 RY.eq_1 RYe.eq_1 gr5.eq_1 e0 e1 e2 e3 e4 e5;repeat refine st ?_
 refine zap 5 5 3 1 ?_;refine zap 6 6 3 1 ?_;refine zab (D:=Nat) (fun j vs'=>[(0, .loc 1000 (vs' 1000) 0 0),(1, .seq 1 (ts.map zac)),(5, .row 5 (vs' 5)),(6, .row 6 (vs' 6)),(21, .seq 1 (ts.map zac)),(22,I ts.length),(23,I j)]) (fun j vs'=>(5,⟨1,(goneR c r.act (ts.take j)).map intAV,3,true⟩)::(6,⟨1,[],3,true⟩)::RY c d now r vs') (fun j vs' esc'=>j<=ts.length/\(vs' 1000=vs 1000/\vs' 1002=vs 1002)/\esc' 1000=false/\esc' 1001=false/\esc' 1002=false/\esc' 1003=false/\esc' 1004=false/\esc' 1005=false/\esc' 5=false/\esc' 6=false) (fun j=>ts.length-j) 0 ?_ ?_ ?_ ?_
 ·exact⟨Nat.zero_le _,by simp only[go_sem,and_self],by simp only[go_sem,e0,e1,e2,e3,e4,e5,and_self]⟩
 ·exact qe
 ·(simp only[go_sem,F])
  try rfl
 try clear e0 e1 e2 e3 e4 e5
 rintro j ws es ⟨hj,⟨v0,v2⟩,e0,e1,e2,e3,e4,e5,e6,e7⟩;by_cases hlt:j<ts.length
 ·obtain⟨n,hx⟩:=gE hlt;obtain⟨t,ht⟩:=hts n (List.mem_of_getElem? hx);have q1:=nlt hlt;have q2:=zaa hlt (by omega);have hlft:=hlf t;have q4:(goneR c r.act (ts.take (j+1))).map intAV=(goneR c r.act (ts.take j)).map intAV++(leaveR c r.act t).map intAV:=by rw[zso hx ht,List.map_append]
  have q3:(goneR c r.act (ts.take j)).length<=32*j:=Nat.le_trans (hgl _) (by rw[List.length_take];omega);generalize goneR c r.act (ts.take j)=A at*;by_cases h0:t.target<0
  ·have f0:=fL0 n t ht h0;have hz:leaveR c r.act t=[]:=by unfold leaveR;rw[if_pos h0]
   rw[hz,List.map_nil,List.append_nil]at q4;have q5:Fits A.length 8:=zae (by omega) (by omega);have F:=ai12 RY.eq_1 RYe.eq_1 zac.eq_1 gr5.eq_1 hx q1 q2 q5 e0 e1 e2<|ai5 e3 e4 e5 e6 e7;repeat refine st ?_
   refine iL [(1001,1001)] f0 ?_;repeat refine st ?_
   refine⟨j+1,⟨hlt,by simp only[go_sem,v0,v2,and_self],by simp only[go_sem,e0,e1,e2,e3,e4,e5,e6,e7,and_self]⟩,?_,?_,by omega⟩
   ·exact qe
   ·simp only[q4];exact qe
  ·have f0:=fL n t ht h0;have q5:Fits (A.length+(leaveR c r.act t).length) 8:=zae (by omega) (by omega);generalize leaveR c r.act t=Lv at*;refine zl1 9001 rfl ?_;have F:=ai12 RY.eq_1 RYe.eq_1 zac.eq_1 gr5.eq_1 hx q1 q2 q5 e0 e1 e2<|ai5 e3 e4 e5 e6 e7;repeat refine st ?_
   refine iL [(1001,1001),(35,9001)] f0 ?_;repeat refine st ?_
   refine⟨j+1,⟨hlt,by simp only[go_sem,v0,v2,and_self],by simp only[go_sem,e0,e1,e2,e3,e4,e5,e6,e7,and_self]⟩,?_,?_,by omega⟩
   ·exact qe
   ·simp only[q4];exact qe
 ·obtain rfl:j=ts.length:=by omega
  have q1:=nl ts.length;rw[List.take_length];have F:=ai12 RY.eq_1 RYe.eq_1 gr5.eq_1 q1 e0 e1 e2 e3 e4 e5 e6 e7;repeat refine tz1 fT ?_
  refine lL fS ?_;repeat refine st ?_
  refine iL [(1001,1001),(1006,54)] fR ?_;repeat refine st ?_
  refine zab (D:=Nat) (fun j vs'=>[(0, .loc 1000 (vs' 1000) 0 0),(1, .seq 1 (ts.map zac)),(5, .row 54 (vs' 54)),(6, .row 6 (vs' 6)),(11,memsAV mem),(82, .seq 1 (ts.map zac)),(83,I ts.length),(84,I j)]) (fun j vs'=>(54,⟨1,G.map zac,3,true⟩)::(6,⟨1,(toR c mem (ts.take j)).map zac,3,true⟩)::RY c d now { r with mem:=mem } vs') (fun j vs' esc'=>j<=ts.length/\(vs' 1000=vs 1000/\vs' 1002=vs 1002)/\esc' 1000=false/\esc' 1001=false/\esc' 1002=false/\esc' 1003=false/\esc' 1004=false/\esc' 1005=false/\esc' 54=false/\esc' 6=false) (fun j=>ts.length-j) 0 ?_ ?_ ?_ ?_
  ·exact⟨Nat.zero_le _,by simp only[go_sem,v0,v2,and_self],by simp only[go_sem,e0,e1,e2,e3,e4,e5,e7,and_self]⟩
  ·exact qe
  ·(simp only[go_sem,F])
   try rfl
  try clear e0 e1 e2 e3 e4 e5 e6 e7 v0 v2
  rintro j us fs ⟨hj,⟨v0,v2⟩,e0,e1,e2,e3,e4,e5,e6,e7⟩;by_cases hlt:j<ts.length
  ·obtain⟨n,hx⟩:=gE hlt;obtain⟨t,ht⟩:=hts n (List.mem_of_getElem? hx);have q1:=nlt hlt;have q2:=zaa hlt (by omega);have f0:=fTg n t ht;have q4:(toR c mem (ts.take (j+1))).map zac=(toR c mem (ts.take j)).map zac++(targetR c t mem).map zac:=by rw[zqK hx ht,List.map_append]
   have q3:(toR c mem (ts.take j)).length<=32*j:=Nat.le_trans (hto _) (by rw[List.length_take];omega);have q6:(toR c mem (ts.take (j+1))).length<=32*(j+1):=Nat.le_trans (hto _) (by rw[List.length_take];omega);rw[zqK hx ht,List.length_append]at q6;generalize targetR c t mem=Tg at*;generalize toR c mem (ts.take j)=A at*;have q5:Fits (A.length+Tg.length) 8:=zae (by omega) (by omega);have F:=ai12 RY.eq_1 RYe.eq_1 zac.eq_1 gr5.eq_1 hx q1 q2 q5 e0 e1 e2<|ai5 e3 e4 e5 e6 e7;repeat refine tz1 f0 ?_
   refine⟨j+1,⟨hlt,by simp only[go_sem,v0,v2,and_self],by simp only[go_sem,e0,e1,e2,e3,e4,e5,e6,e7,and_self]⟩,?_,?_,by omega⟩
   ·exact qe
   ·simp only[q4];exact qe
  obtain rfl:j=ts.length:=by omega
  have q1:=nl ts.length;rw[List.take_length];try clear fL fL0 fTg fS fR
  rcases hX:zbn c d now { r with mem:=mem } (zL G.reverse) with⟨r1,_|⟨k,ps⟩⟩
  ·rw[hX]at fLv kL;obtain⟨kr,kmm,_,kact⟩:=kL;have kact:=kact rfl;simp only at kr kmm kact;have hact1:r1.act.length<=100:=by rw[kact];exact Nat.le_trans (List.length_filter_le ..) hl
   have hrise1:r1.act.Pairwise (· < ·):=by rw[kact];exact hrise.sublist List.filter_sublist
   have hlegr: ∀r2:RunD,RunOk c r2->r2.act=r1.act->(zaK c d now r2 [] (zL T2)).1.2=none->lgB c (zaK c d now r2 [] (zL T2)).1.1.act=true:=fun r2 k1 k2=>hleg r2 k1 (by rw[k2,kact]);unfold errA RYs RY RYe at fLv;simp only at fLv |-;have F:=ai12 RY.eq_1 RYe.eq_1 gr5.eq_1 q1 e0 e1 e2 e3 e4 e5 e6 e7;repeat refine st ?_
   refine iL [(1000,1000),(1001,1001),(1002,1002),(1003,1003),(1004,1004),(1005,1005),(1006,54)] fLv ?_;repeat refine st ?_
   refine zab (D:=Nat×RunD) (fun x vs'=>[(0, .loc 1000 (vs' 1000) 0 0),(6, .row 6 (vs' 6)),(111, .seq 1 (ts.map zac)),(112,I ts.length),(113,I x.1)]) (fun x vs'=>(6,⟨1,(toR c mem ts).map zac,3,true⟩)::RY c d now x.2 vs') (fun x vs' esc'=>(x.1<=ts.length/\zeq c d now r1 ts=zeq c d now x.2 (ts.drop x.1)/\RunOk c x.2/\x.2.act=r1.act)/\(vs' 1000=vs 1000/\vs' 1002=vs 1002)/\esc' 1000=false/\esc' 1001=false/\esc' 1002=false/\esc' 1003=false/\esc' 1004=false/\esc' 1005=false/\esc' 6=false) (fun x=>ts.length-x.1) (0,r1) ?_ ?_ ?_ ?_
   ·exact⟨⟨Nat.zero_le _,rfl,kr,rfl⟩,by simp only[go_sem,v0,v2,and_self],by simp only[go_sem,e0,e1,e2,e3,e4,e5,e7,and_self]⟩
   ·exact qe
   ·exact qe
   try clear e0 e1 e2 e3 e4 e5 e6 e7 v0 v2
   rintro⟨j,r2⟩ us fs ⟨⟨hj,heq,hr2,hact2⟩,⟨v0,v2⟩,e0,e1,e2,e3,e4,e5,e7⟩;simp only at hj heq hr2 hact2;by_cases hlt:j<ts.length
   ·obtain⟨n,hx⟩:=gE hlt;obtain⟨t,ht⟩:=hts n (List.mem_of_getElem? hx);obtain⟨s1,s2⟩:=zvD E.h ht;have hn:=(List.getElem?_eq_some_iff.1 ht).1;have f0:=hal r2 hr2 (by rw[hact2];omega) t.acts (by omega) s2;obtain⟨k1,k2⟩:=hok r2 hr2 t.acts s2;have q1:=nlt hlt;have q2:=zaa hlt (by omega);have q3:=nlt hn;rw[ztt hx ht]at heq;rcases hY:allP c d now r2 t.acts with⟨r3,_|⟨k,ps⟩⟩
    ·rw[hY]at heq f0 k1 k2;simp only at heq k1 k2;unfold errA RY RYe at f0;simp only at f0;have F:=ai12 RY.eq_1 RYe.eq_1 trAV.eq_1 zac.eq_1 actsAV.eq_1 gr5.eq_1 hx ht q1 q2 q3<|ai7 e0 e1 e2 e3 e4 e5 e7;repeat refine st ?_
     refine iL L6 f0 ?_;repeat refine st ?_
     refine⟨(j+1,r3),⟨⟨hlt,heq,k1,k2.act.trans hact2⟩,by simp only[go_sem,v0,v2,and_self],by simp only[go_sem,e0,e1,e2,e3,e4,e5,e7,and_self]⟩,?_,?_,by simp only;omega⟩
     ·exact qe
     ·exact qe
    ·rw[hY]at heq f0;simp only at heq;unfold errA RY RYe at f0;simp only at f0;rw[heq];show awp _ _ _ _ _ _;unfold errA;simp only;have F:=ai12 RY.eq_1 RYe.eq_1 trAV.eq_1 zac.eq_1 actsAV.eq_1 gr5.eq_1 hx ht q1 q2 q3<|ai9 v0 v2 e0 e1 e2 e3 e4 e5 e7;repeat refine st ?_
     refine iL L6 f0 ?_;repeat refine st ?_
     exact rI
   ·obtain rfl:j=ts.length:=by omega
    have q1:=nl ts.length;rw[List.drop_length]at heq;rw[show zeq c d now r2 []=(r2,none) from rfl]at heq;rw[heq];simp only;have f9:=hen r2 hr2 (by rw[hact2];exact hrise1) (by rw[hact2];omega) (hlegr r2 hr2 hact2);generalize enterP c d now r2 (zL T2)=X at*;unfold RY RYe at f9;have F:=ai12 RY.eq_1 RYe.eq_1 gr5.eq_1 zcx q1 v0 v2 e0 e1 e2 e3<|ai3 e4 e5 e7;repeat refine tz1 fT ?_
    refine lL fS2 ?_;repeat refine st ?_
    refine iL L6 f9 ?_;repeat refine st ?_
    exact rI
  ·rw[hX]at fLv;unfold errA RYs RY RYe at fLv;simp only at fLv |-;show awp _ _ _ _ _ _;unfold errA;simp only;have F:=ai12 RY.eq_1 RYe.eq_1 gr5.eq_1 q1 v0 v2 e0 e1 e2 e3 e4<|ai3 e5 e6 e7;repeat refine st ?_
   refine iL [(1000,1000),(1001,1001),(1002,1002),(1003,1003),(1004,1004),(1005,1005),(1006,54)] fLv ?_;repeat refine st ?_
   exact rI
end
section
end
section
end
section
end
section
theorem ze7 (env:Env) (es:List (List AV)) (hl:Fits es.length 8):Con prog env 70 [.seq 1 es] (.own 3 1 es):=by
 cases es with
 | nil=>
   refine Con.empty fun A cap=> ?_;cases A with
   | none=>
     refine qw func70 call70 ntmps70 results70 ?_;repeat refine st0 ?_
     (refine zal ?_;refine⟨_,(by show (zaG _ _ _).run _=some _;simp only[go_sem];rfl),?_⟩)
     exact RStr.own_nil _ _ (by decide)
   | some A=>
     refine qf func70 call70 ntmps70 results70 ?_;repeat refine st0 ?_
     exact aR0
 | cons d l=>
   have g1:Fits (l.length+1) 8:=hl;refine qf func70 call70 ntmps70 results70 ?_;have F:=g1;repeat refine st ?_
   exact aR
theorem znl (env:Env) (es:List (List AV)) (hl:Fits es.length 24):Con prog env 71 [.seq 2 es] (.own 86 2 es):=by
 cases es with
 | nil=>
   refine Con.empty fun A cap=> ?_;cases A with
   | none=>
     refine qw func71 call71 ntmps71 results71 ?_;repeat refine st0 ?_
     (refine zal ?_;refine⟨_,(by show (zaG _ _ _).run _=some _;simp only[go_sem];rfl),?_⟩)
     exact RStr.own_nil _ _ (by decide)
   | some A=>
     refine qf func71 call71 ntmps71 results71 ?_;repeat refine st0 ?_
     exact aR0
 | cons d l=>
   have g1:Fits (l.length+1) 24:=hl;refine qf func71 call71 ntmps71 results71 ?_;have F:=g1;repeat refine st ?_
   exact aR
end
section
theorem zv6 (env:Env) (a1 a8:Addr) (he:ChEnv env a1 a8) (c:ChD) (h:Full c) (hsm:Small c) (d now:Int) (r:RunD) (hl:r.act.length<=1000) (hb:lgB c r.act=true) (l:List Nat) (hF:Fit c r.act l) (hll:l.length<=1000):
 ConI prog env 33 [1000,1001,1002,1003,1004,1005] (fun _=>false) (fun g=>[.loc 1000 (g 1000) 0 0, .seq 1 (l.map zac)]) (RY c d now r) (RY c d now r) (fun _=>B true):=by
 have htr:=h.ftr
 have fC:=fun(n:Nat) (t:TrD) (ht:c.trans[n]? =some t) (hs:t.src∈r.act)=>by
  have:=zaB env r.act t.src (by omega);rw[List.contains_iff_mem.2 hs]at this;exact this.lend rfl
 have fK:=fun(a b:Nat) ha hbb=>(zgs env a1 a8 he c h hsm r.act (by omega) hb a b ha hbb).lend rfl;have htwo:=List.pairwise_iff_getElem.1 hF.two;unfold zah at fK;refine qi func33 call33 ntmps33 results33 ?_;intro vs esc hesc;obtain⟨e0,e1,e2,e3,e4,e5⟩:=es6 hesc;have F:=ai8 RY.eq_1 RYe.eq_1 e0 e1 e2 e3 e4 e5;repeat refine st ?_
 refine zab (D:=Nat) (fun i vs'=>[(0, .loc 1000 (vs' 1000) 0 0),(1, .seq 1 (l.map zac)),(9, .seq 1 (l.map zac)),(10,I l.length),(11,I i)]) (fun i vs'=>RY c d now r vs') (fun i vs' esc'=>i<=l.length/\(vs' 1000=vs 1000/\vs' 1001=vs 1001/\vs' 1002=vs 1002/\vs' 1003=vs 1003/\vs' 1004=vs 1004/\vs' 1005=vs 1005)/\esc' 1000=false/\esc' 1001=false/\esc' 1002=false/\esc' 1003=false/\esc' 1004=false/\esc' 1005=false) (fun i=>l.length-i) 0 ?_ ?_ ?_ ?_
 ·exact⟨Nat.zero_le _,by simp only[go_sem,and_self],by simp only[go_sem,e0,e1,e2,e3,e4,e5,and_self]⟩
 ·exact qe
 ·exact qe
 try clear e0 e1 e2 e3 e4 e5
 rintro i ws es ⟨hi,⟨v0,v1,v2,v3,v4,v5⟩,e0,e1,e2,e3,e4,e5⟩;by_cases hlt:i<l.length
 ·obtain⟨n,hx⟩:=gE hlt;obtain⟨t,ht,hs⟩:=hF.real n (List.mem_of_getElem? hx);have hn:=(List.getElem?_eq_some_iff.1 ht).1;have f0:=fC n t ht hs;have q1:=nlt hlt;have q2:=zaa hlt (by omega);have q3: ¬(n:Int)<0:=by omega
  have q4: ¬(c.trans.length:Int)<=(n:Int):=by omega
  have q5:(n:Int)< (c.trans.length:Int):=by omega
  have q6:(l.take i).length=i:=by rw[List.length_take];omega
  have q7:(i:Int)<=(l.length:Int):=by omega
  have F:=ai12 trAV.eq_1 zac.eq_1 RY.eq_1 RYe.eq_1 hx ht q1 q3 q4 q5 q7<|ai6 e0 e1 e2 e3 e4 e5;repeat refine st ?_
  refine lL f0 ?_;repeat refine st ?_
  generalize hT:l.take i=T at*;refine zab (D:=Nat) (fun j vs'=>[(0, .loc 1000 (vs' 1000) 0 0),(1, .seq 1 (l.map zac)),(6,I n),(9, .seq 1 (l.map zac)),(10,I l.length),(11,I i),(48, .seq 1 (T.map zac)),(49,I T.length),(50,I j)]) (fun j vs'=>RY c d now r vs') (fun j vs' esc'=>j<=i/\(vs' 1000=vs 1000/\vs' 1001=vs 1001/\vs' 1002=vs 1002/\vs' 1003=vs 1003/\vs' 1004=vs 1004/\vs' 1005=vs 1005)/\esc' 1000=false/\esc' 1001=false/\esc' 1002=false/\esc' 1003=false/\esc' 1004=false/\esc' 1005=false) (fun j=>i-j) 0 ?_ ?_ ?_ ?_
  ·exact⟨Nat.zero_le _,by simp only[go_sem,v0,v1,v2,v3,v4,v5,and_self],by simp only[go_sem,e0,e1,e2,e3,e4,e5,and_self]⟩
  ·exact qe
  ·exact qe
  try clear e0 e1 e2 e3 e4 e5 v0 v1 v2 v3 v4 v5
  rintro j us fs ⟨hj,⟨v0,v1,v2,v3,v4,v5⟩,e0,e1,e2,e3,e4,e5⟩;by_cases hlt2:j<i
  ·obtain⟨k,hk⟩: ∃a,T[j]? =some a:=⟨T[j]'(by omega),List.getElem?_eq_getElem (by omega)⟩;have hk2:l[j]? =some k:=by rw[<-hT,List.getElem?_take,if_pos hlt2]at hk;exact hk
   obtain⟨tk,htk,_⟩:=hF.real k (List.mem_of_getElem? hk2);have hkn:=(List.getElem?_eq_some_iff.1 htk).1;have hp:=htwo j i (by omega) hlt hlt2;rw[(List.getElem?_eq_some_iff.1 hk2).2,(List.getElem?_eq_some_iff.1 hx).2]at hp;have f1:=fK k n hkn hn;rw[hp.2]at f1;have p1:(j:Int)< (T.length:Int):=by omega
   have p2:IntKind.i64.wrap ((j:Int)+1)=((j+1:Nat):Int):=zaa (show j<l.length by omega) (by omega);have p3:((k:Int)==(n:Int))=false:=by have:=hp.1;simp;omega
   have F:=ai12 zac.eq_1 RY.eq_1 RYe.eq_1 hk p1 p2 p3 e0 e1 e2 e3<|ai e4 e5;repeat refine st ?_
   refine lL f1 ?_;repeat refine st ?_
   refine⟨j+1,⟨hlt2,by simp only[go_sem,v0,v1,v2,v3,v4,v5,and_self],by simp only[go_sem,e0,e1,e2,e3,e4,e5,and_self]⟩,?_,?_,by omega⟩
   ·exact qe
   ·exact qe
  ·obtain rfl:j=i:=by omega
   have p1: ¬(j:Int)< (T.length:Int):=by omega
   have F:=ai10 RY.eq_1 RYe.eq_1 p1 q2 e0 e1 e2 e3 e4 e5;repeat refine st ?_
   refine⟨j+1,⟨hlt,by simp only[go_sem,v0,v1,v2,v3,v4,v5,and_self],by simp only[go_sem,e0,e1,e2,e3,e4,e5,and_self]⟩,?_,?_,by omega⟩
   ·exact qe
   ·exact qe
 ·obtain rfl:i=l.length:=by omega
  have q1:=nl l.length;have F:=ai12 RY.eq_1 RYe.eq_1 q1 v0 v1 v2 v3 v4 v5 e0 e1<|ai4 e2 e3 e4 e5;repeat refine st ?_
  exact rI
end
section
def domT (c:ChD) (t:TrD):Int:=domE c t.src t.target
def zgz (c:ChD) (t:TrD) (x:Int):Prop:=0<=t.target/\aboveB c (domT c t) x=true
def ToT (c:ChD) (mem:List MemD) (t:TrD) (x:Int):Prop:=0<=t.target/\Gr c (upsL c (leadL c t.target mem) (domT c t)) x
def zdc (c:ChD) (act:List Int) (mem:List MemD) (ts:List Nat) (x:Int):Prop:=(x∈act/\ ∀n∈ts,¬zgz c (trAt c n) x)\/ ∃n∈ts,ToT c mem (trAt c n) x
theorem zoo {c:ChD} (h:Full c) {d:Int} {P:List Int} (hu: ∀k∈P,aboveB c d k=true) {x:Int} (g:Gr c P x):aboveB c d x=true:=by
 have hr:=h.toRight
 induction g with
 |base hx=>exact hu _ hx
 | ini g hp hn h0 ih=>
   have hk:=zfr h hp h0;obtain⟨k1,k2,_⟩:=zaO hr hk;exact(zam hr k1).2 (.inr (by rw[k2];exact ih))
 | par g hp hk ih=>
   obtain⟨k1,k2,_⟩:=zaO hr hk;exact(zam hr k1).2 (.inr (by rw[k2];exact ih))
theorem zwb {c:ChD} {act:List Int} {a b:Nat} {x:Int} (h1:x∈leaveR c act (trAt c a)) (h2:x∈leaveR c act (trAt c b)):zcY c act a b=true:=by
 unfold zcY;rw[List.any_eq_true];exact⟨x,h1,List.contains_iff_mem.2 h2⟩
structure TrOk (c:ChD) (act:List Int) (mem:List MemD) (t:TrD):Prop where
 src:t.src∈act
 bel:0<=t.target->aboveB c (domT c t) t.src=true
 dom:0<=t.target->domT c t= -1\/(domT c t∈act/\zaD c (domT c t)=true)
 uni:0<=t.target->Uni c (domT c t) (upsL c (leadL c t.target mem) (domT c t))
 left: ∀x,x∈leaveR c act t↔x∈act/\zgz c t x
 to: ∀x,x∈zL (targetR c t mem)↔ToT c mem t x
theorem zmc {c:ChD} (h:Full c) {act:List Int} (hb:lgB c act=true) {mem:List MemD} (hm:zbd c mem=true) {n:Nat} {t:TrD} (ht:c.trans[n]? =some t) (hsrc:t.src∈act):TrOk c act mem t:=by
 obtain⟨s1,s2⟩:=h.src ht;have hg:=zc4 hb;have hz:0<=t.target->inZ c t.target=true:=fun h0=>s2.resolve_left (by omega);refine⟨hsrc,fun h0=> ?_,fun h0=> ?_,fun h0=> ?_,fun x=> ?_,fun x=> ?_⟩
 ·exact List.contains_iff_mem.2 (zlO h s1 (hz h0)).2.1
 ·obtain⟨_,d2,d3⟩:=zlO h s1 (hz h0);exact d3.imp id fun e=>⟨hg.up h.toRight (t.src.toNat+1) t.src _ (by have:=(zag.1 s1).1;omega) hsrc d2 e.1,e.2⟩
 ·obtain⟨d1,_,d3⟩:=zlO h s1 (hz h0);exact zjN h (hz h0) hm d1 (by unfold domT;rcases d3 with e|e<;>omega)
 ·by_cases h0:0<=t.target
  ·unfold leaveR;rw[if_neg (by omega),List.mem_reverse];unfold undR
   rw[List.mem_filter,zd4 h.toRight fun y hy=>by
    obtain⟨_,_,hz,_⟩:=hg.of hy
    exact hz]
   exact⟨fun q=>⟨q.1,h0,q.2⟩,fun q=>⟨q.1,q.2.2⟩⟩
  ·unfold leaveR zgz;rw[if_pos (by omega)];simp[h0]
 ·by_cases h0:0<=t.target
  ·obtain⟨d1,_,d3⟩:=zlO h s1 (hz h0);have hu:=zjN h (hz h0) hm d1 (by rcases d3 with e|e<;>omega);have hin: ∀y∈upsL c (leadL c t.target mem) (domE c t.src t.target),inZ c y=true:=fun y hy=>zao (hu.bel y hy);have hn:=(zdX (c:=c) (d:=domE c t.src t.target) (l:=leadL c t.target mem)).1;unfold targetR tgtL ToT domT;rw[if_neg (by omega),zd4 h.toRight fun y hy=>((zc5 h hn).1 hy).in h hin,zc5 h hn];exact⟨fun q=>⟨h0,q⟩,fun q=>q.2⟩
  ·unfold targetR ToT;rw[if_pos (by omega)];simp[h0,zL]
theorem zoT {c:ChD} (h:Full c) {act:List Int} {mem:List MemD} {a b:Nat} (ha:TrOk c act mem (trAt c a)) (hb:TrOk c act mem (trAt c b)) (hc:zcY c act a b=false) {x:Int} (h1:zgz c (trAt c a) x) (h2:zgz c (trAt c b) x):False:=by
 have hr:=h.toRight
 have key: ∀y,y∈act->zgz c (trAt c a) y->zgz c (trAt c b) y->False:=fun y hy k1 k2=>by
  have:=zwb ((ha.left y).2 ⟨hy,k1⟩) ((hb.left y).2 ⟨hy,k2⟩);rw[hc]at this;cases this
 have hz:=zag.1 (zao h1.2);rcases zh7 hr (c.states.length) x hz.2 (List.contains_iff_mem.1 h1.2) (List.contains_iff_mem.1 h2.2) with e|e|e
 ·exact key _ ha.src ⟨h1.1,ha.bel h1.1⟩ ⟨h2.1,by rw[<-e];exact ha.bel h1.1⟩
 ·exact key _ hb.src ⟨h1.1,zdO hr (List.contains_iff_mem.2 e) (hb.bel h2.1)⟩ ⟨h2.1,hb.bel h2.1⟩
 ·exact key _ ha.src ⟨h1.1,ha.bel h1.1⟩ ⟨h2.1,zdO hr (List.contains_iff_mem.2 e) (ha.bel h1.1)⟩
theorem Fit.front {c:ChD} {act:List Int} {l:List Nat} {n:Nat} (h:Fit c act (l++[n])):Fit c act l/\ ∀k∈l,zcY c act k n=false:=by
 obtain⟨h1,_,h3⟩:=List.pairwise_append.1 h.two;exact⟨⟨fun m hm=>h.real m (List.mem_append_left _ hm),h1⟩,fun k hk=>(h3 k hk n (by simp)).2⟩
theorem ziG {c:ChD} (h:Full c) {act:List Int} (hb:lgB c act=true) {mem:List MemD} (hm:zbd c mem=true): ∀(m:Nat) (ts:List Nat),ts.length=m->Fit c act ts-> ∃O:List Nat,O.Pairwise (· < ·)/\lgB c (zL O)=true/\ ∀x,x∈zL O↔zdc c act mem ts x
 | 0,ts,hl,hf=>by
   obtain rfl:ts=[]:=List.length_eq_zero_iff.1 hl;have hg:=zc4 hb;obtain⟨l,e,hk⟩:=zrR hb
   have hr:l.Pairwise (· < ·):=by
    have:=hg.rise;rw[e]at this;unfold zL at this;exact(List.pairwise_map.1 this).imp fun h=>by omega
   exact⟨l,hr,by rw[<-e];exact hb,fun x=>by rw[<-e];simp[zdc]⟩
 | m+1,ts,hl,hf=>by
   rcases List.eq_nil_or_concat ts with rfl|⟨l,n,rfl⟩
   ·simp at hl
   rw[List.concat_eq_append]at hf hl |-;obtain⟨hf1,hno⟩:=hf.front;obtain⟨O,o1,o2,o3⟩:=ziG h hb hm m l (by simpa using hl) hf1;obtain⟨t,ht,hsrc⟩:=hf.real n (by simp);have hT:=zmc h hb hm ht hsrc
   have hok: ∀k∈l,TrOk c act mem (trAt c k):=fun k hk=>by
    obtain⟨t',ht',hs'⟩:=hf1.real k hk;rw[zci ht'];exact zmc h hb hm ht' hs'
   rw[<-zci ht]at hT;by_cases h0:0<=(trAt c n).target
   ·have hgO:=zc4 o2;have hu:=hT.uni h0;have bel: ∀k∈l,∀x,ToT c mem (trAt c k) x->zgz c (trAt c k) x:=fun k hk x q=>⟨q.1,zoo h ((hok k hk).uni q.1).bel q.2⟩
    have hd:domT c (trAt c n)= -1\/(domT c (trAt c n)∈zL O/\zaD c (domT c (trAt c n))=true):=by
     refine(hT.dom h0).imp id fun e=>⟨(o3 _).2 (.inl ⟨e.1,fun k hk hl=> ?_⟩),e.2⟩;exact zoT h (hok k hk) hT (hno k hk) (x:=(trAt c n).src) ⟨hl.1,zdO h.toRight hl.2 (hT.bel h0)⟩ ⟨h0,hT.bel h0⟩
    classical
    let O':List Nat:=(List.range c.states.length).filter fun k:Nat=>decide (zdc c act mem (l++[n]) (k:Int))
    have hz: ∀x,zdc c act mem (l++[n]) x->inZ c x=true:=fun x hx=>by
     rcases hx with⟨hx,_⟩|⟨k,hk,q⟩
     ·obtain⟨_,_,hz,_⟩:=(zc4 hb).of hx;exact hz
     ·rcases List.mem_append.1 hk with hk|hk
      ·exact zao (bel k hk x q).2
      ·rw[List.mem_singleton.1 hk]at q;exact zao (zoo h hu.bel q.2)
    have hmem: ∀x,x∈zL O'↔zdc c act mem (l++[n]) x:=fun x=>by
     constructor
     ·intro hx;obtain⟨k,hk,rfl⟩:=List.mem_map.1 hx;simpa using (List.mem_filter.1 hk).2
     ·intro hx;obtain⟨k,rfl⟩: ∃k:Nat,x=k:=⟨x.toNat,by have:=zag.1 (hz x hx);omega⟩;exact List.mem_map.2 ⟨k,List.mem_filter.2 ⟨List.mem_range.2 (zar.1 (hz _ hx)),by simpa using hx⟩,rfl⟩
    refine⟨O',zq8,(zpw h hgO hu hd zq8 fun x=> ?_).1,hmem⟩;rw[hmem,o3];constructor
    ·rintro(⟨q1,q2⟩|⟨k,hk,q⟩)
     ·refine .inl ⟨.inl ⟨q1,fun k hk=>q2 k (List.mem_append_left _ hk)⟩,?_⟩;cases hh:aboveB c (domT c (trAt c n)) x
      ·rfl
      ·exact absurd ⟨h0,hh⟩ (q2 n (by simp))
     ·rcases List.mem_append.1 hk with hk|hk
      ·refine .inl ⟨.inr ⟨k,hk,q⟩,?_⟩;cases hh:aboveB c (domT c (trAt c n)) x
       ·rfl
       ·exact(zoT h (hok k hk) hT (hno k hk) (bel k hk x q) ⟨h0,hh⟩).elim
      ·rw[List.mem_singleton.1 hk]at q;exact .inr q.2
    ·rintro(⟨⟨q1,q2⟩|⟨k,hk,q⟩,hn⟩|q)
     ·refine .inl ⟨q1,fun k hk hl=> ?_⟩;rcases List.mem_append.1 hk with hk|hk
      ·exact q2 k hk hl
      ·rw[List.mem_singleton.1 hk]at hl;rw[hl.2]at hn;cases hn
     ·exact .inr ⟨k,List.mem_append_left _ hk,q⟩
     ·exact .inr ⟨n,by simp,h0,q⟩
   ·refine⟨O,o1,o2,fun x=> ?_⟩;rw[o3];have n1: ¬zgz c (trAt c n) x:=fun q=>h0 q.1;have n2: ¬ToT c mem (trAt c n) x:=fun q=>h0 q.1;constructor
    ·rintro(⟨q1,q2⟩|⟨k,hk,q⟩)
     ·refine .inl ⟨q1,fun k hk=> ?_⟩;rcases List.mem_append.1 hk with hk|hk
      ·exact q2 k hk
      ·rw[List.mem_singleton.1 hk];exact n1
     ·exact .inr ⟨k,List.mem_append_left _ hk,q⟩
    ·rintro(⟨q1,q2⟩|⟨k,hk,q⟩)
     ·exact .inl ⟨q1,fun k hk=>q2 k (List.mem_append_left _ hk)⟩
     ·rcases List.mem_append.1 hk with hk|hk
      ·exact .inr ⟨k,hk,q⟩
      ·rw[List.mem_singleton.1 hk]at q;exact absurd q n2
end
section
theorem zuS {c:ChD} (h:(chk c).1=0):c.vars.length<=8/\ ∀v∈c.vars,zai v.start=true:=by
 unfold chk at h;split at h
 ·simp at h
 rename_i h1;split at h
 ·simp at h
 split at h
 ·simp at h
 rename_i h3;refine⟨by omega,fun v hv=> ?_⟩;obtain⟨k,hk,rfl⟩:=List.getElem_of_mem hv;have:=zbf h3 k hk;unfold zeS varB at this;rw[List.getElem?_eq_getElem hk]at this;simp only[Bool.and_eq_true,decide_eq_true_eq]at this;rw[zaY];exact⟨this.1.2,this.2⟩
def startR (c:ChD):RunD:=⟨[],c.vars.map (·.start),[],[],false,[],[]⟩
theorem znK {c:ChD} (hv: ∀v∈c.vars,zai v.start=true):RunOk c (startR c):=⟨by unfold startR;simp,fun x hx=>by
 obtain⟨v,hvm,rfl⟩:=List.mem_map.1 hx
 exact hv v hvm,⟨.nil,by simp[startR]⟩,by simp[startR],by simp[startR],by simp[startR]⟩
theorem zvE {c:ChD} (h:Full c):tbegL c (-1)=sbL c (iniN c):=by
 obtain⟨s,hs,hini,_⟩:=h.topS;have hi:=(List.getElem?_eq_some_iff.1 hs).1;have hz:inZ c c.initial=true:=by rw[hini];exact zar.2 hi
 unfold tbegL;simp only[if_true];rw[hz,if_pos rfl];rfl
theorem znG {c:ChD} (h:Full c) {k:Nat} (hk:k∈tbegL c (-1)):k<c.states.length:=by
 obtain⟨s,hs,_⟩:=h.topS;have hi:=(List.getElem?_eq_some_iff.1 hs).1;rw[zvE h,zvd h hi, <-zej h]at hk;exact List.mem_range.1 (List.mem_filter.1 hk).1
theorem zmt {c:ChD} (h:Full c):zq9 c (tbegL c (-1))=ziQ c:=by
 rw[zvE h];unfold zq9 ziQ;apply List.filter_congr;intro k _;rw[Bool.eq_iff_iff,zm2,decide_eq_true_iff]
theorem zmf {c:ChD} (h:Full c) {now:Int} (hn:0<=now/\now<=1099511627776) (hv: ∀v∈c.vars,zai v.start=true) (he:(zaK c 0 now (startR c) [] (zL (tbegL c (-1)))).1.2=none):lgB c (zaK c 0 now (startR c) [] (zL (tbegL c (-1)))).1.1.act=true/\(zaK c 0 now (startR c) [] (zL (tbegL c (-1)))).1.1.act=zL (zq9 c (tbegL c (-1))):=by
 obtain⟨_,k⟩:=ze6 (zcg h) (l:=zL (tbegL c (-1))) (f:=[]) (show zai 0=true by rfl) hn (znK hv) .nil;have kc:=k he;have hb:=zm5 h;rw[<-zmt h]at hb
 have e:(zaK c 0 now (startR c) [] (zL (tbegL c (-1)))).1.1.act=zL (zq9 c (tbegL c (-1))):=zjq kc.rise (by unfold zq9;exact zqq) fun x=>by
  rw[kc.mem];simp only[startR,List.not_mem_nil,false_or];constructor
  ·intro hx;obtain⟨j,hj,rfl⟩:=List.mem_map.1 hx;refine List.mem_map.2 ⟨j,List.mem_filter.2 ⟨List.mem_range.2 ?_,zm2.2 hj⟩,rfl⟩;exact znG h hj
  ·intro hx;obtain⟨j,hj,rfl⟩:=List.mem_map.1 hx;exact List.mem_map.2 ⟨j,zm2.1 (List.mem_filter.1 hj).2,rfl⟩
 exact⟨by rw[e];exact hb,e⟩
theorem ziF (env:Env) (now:Int):Con prog env 32 [I now] (B (decide (0<=now/\now<=1099511627776))):=by
 by_cases h0:0<=now
 ·by_cases h1:now<=1099511627776
  ·have k:decide (0<=now/\now<=1099511627776)=true:=by simp[h0,h1]
   rw[k];refine qf func32 call32 ntmps32 results32 ?_;have F:=ai h0 h1;repeat refine st ?_
   exact aR
  ·have k:decide (0<=now/\now<=1099511627776)=false:=by simp[h1]
   rw[k];refine qf func32 call32 ntmps32 results32 ?_;have F:=ai h0 h1;repeat refine st ?_
   exact aR
 ·have k:decide (0<=now/\now<=1099511627776)=false:=by simp[h0]
  rw[k];refine qf func32 call32 ntmps32 results32 ?_;have F:=h0;repeat refine st ?_
  exact aR
def zov (a2 a8:Addr):RunD×ErD->AV
 |(r,none)=> .tuple [.agg [ints34 r.act,ints34 r.vars, .seq 2 (r.mem.map mmAV), .seq 2 (r.tms.map tmAV),B r.over], .agg [ints34 r.outs, .seq 2 (r.rais.map tmAV)],nilE]
 |(_,some e)=> .tuple [.agg [nilS,nilS,nilS,nilS,B false], .agg [nilS,nilS],errV (-1) (errA a2 a8 (some e))]
theorem zqo (env:Env) (a1 a2 a8:Addr) (c:ChD) (now:Int) (E:RunEnv env a1 a2 a8 c 0 now) (hv: ∀v∈c.vars,zai v.start=true):Con prog env 21 [zah c,I now] (zov a2 a8 (zsy c now)):=by
 have hvl:=E.hs.vars;have f0:=ziF env now;rw[decide_eq_true E.hn]at f0;have f1:=zas env c E.hs;have f2:=zhl env c E.hs;have f3:=((zkB env c E.h (-1)).lend (za4 (fun _=>rfl) _)).seen
 have hbl:(tbegL c (-1)).length<=1000:=by
  rw[zvE E.h];have:=zq2 E.h (iniN c);omega
 have f4:=zlM env a1 a2 a8 c 0 now E (startR c) (znK hv) .nil (Nat.zero_le _) (tbegL c (-1)) (fun i hi=>znG E.h hi) hbl (fun hh=>(zmf E.h E.hn hv hh).1);unfold zsy;rw[show (⟨[],c.vars.map (·.start),[],[],false,[],[]⟩:RunD)=startR c from rfl];generalize tbegL c (-1)=G at*;unfold zah at f1 f3 |-;unfold chAV at f1 f2;have hF: ∀k,k<=c.vars.length->((c.vars.take k).map (·.start)).length=k:=fun k hk=>by simp;omega
 refine qf func21 call21 ntmps21 results21 ?_;repeat refine tz03 f0 f1 f2 ?_
 refine nC0 29 9001 0 0 3 1 ?_;refine nC0 29 9002 0 1 3 1 ?_;refine nC0 29 9006 0 2 130 2 ?_;refine nC0 29 9003 0 3 86 2 ?_;refine nC0 29 9004 0 5 3 1 ?_;refine nC0 29 9005 0 6 114 2 ?_;refine zds [(9006,⟨2,[],130,true⟩)] ?_ ?_
 ·exact qe0
 refine zab (D:=Nat) (fun j vs=>[(0, .ref 9 [tabCells c] 0 0),(4, .loc 4 (vs 4) 0 0),(5, .loc 5 (vs 5) 0 0),(6,nilE),(7, .loc 29 (vs 29) 0 0),(34,varsAV c.vars),(35,I c.vars.length),(36,I j)]) (fun j vs=>[(4,⟨5,[[nilS,nilS,nilS,nilS,B false]],31,false⟩),(5,⟨2,[[nilS,nilS]],41,false⟩),(29,⟨15,[[.row 9001 (vs 9001), .row 9002 (vs 9002), .seq 2 [], .row 9003 (vs 9003),B false, .row 9004 (vs 9004), .row 9005 (vs 9005), .ref 9 [tabCells c] 0 0,Sg c.name,I c.initial,varsAV c.vars,stsAV c.states,trsAV c.trans,I 0,I now]],79,false⟩),(9001,⟨1,[],3,true⟩),(9002,⟨1,((c.vars.take j).map (·.start)).map intAV,3,true⟩),(9003,⟨2,[],86,true⟩),(9004,⟨1,[],3,true⟩),(9005,⟨2,[],114,true⟩)]) (fun j _ esc=>j<=c.vars.length/\esc 4=false/\esc 5=false/\esc 29=false/\esc 9001=false/\esc 9002=false/\esc 9003=false/\esc 9004=false/\esc 9005=false) (fun j=>c.vars.length-j) 0 ?_ ?_ ?_ ?_
 ·refine⟨Nat.zero_le _,?_⟩;simp only[seenSt,seesR,zd6,List.any_cons,List.any_nil,go_sem];try simp
 ·simp only[seenSt,seesR,zd6,Row.see,AV.see,AV.see.seeL,Option.getD_none,Option.getD_some,go_sem];try rfl
 ·simp only[seenSt,seesR,zd6,Row.see,AV.see,AV.see.seeL,Option.getD_none,Option.getD_some,go_sem];try rfl
 rintro j ws es ⟨hj,b4,b5,b29,b1,b2,b3,b6,b7⟩;by_cases hlt:j<c.vars.length
 ·obtain⟨v,hx⟩:=gE hlt;have q1:=nlt hlt;have q2:=zaa hlt (by omega);have q3:Fits (((c.vars.take j).map (·.start)).length+1) 8:=by rw[hF j hj];exact zae (by omega) (by omega)
  have q4:((c.vars.take (j+1)).map (·.start)).map intAV=((c.vars.take j).map (·.start)).map intAV++[[I v.start]]:=by rw[zbb hx];simp
  generalize hU:(c.vars.take j).map (·.start)=U at*;have F:=ai12 zdW.eq_1 hx q1 q2 q3 b4 b5 b29 b1 b2 b3<|ai b6 b7;repeat refine st ?_
  refine⟨j+1,⟨hlt,?_⟩,?_,?_,by omega⟩
  ·simp only[go_sem,b4,b5,b29,b1,b2,b3,b6,b7,and_self]
  ·exact qe
  ·simp only[q4];exact qe
 ·obtain rfl:j=c.vars.length:=by omega
  have q1:=nl c.vars.length;have q5:((c.vars.take c.vars.length).map (·.start)).map intAV=(startR c).vars.map intAV:=by rw[List.take_length];rfl
  generalize enterP c 0 now (startR c) (zL G)=X at*;rcases X with⟨r1,_|⟨k,ps⟩⟩
  ·unfold zov;unfold errA RY RYe at f4;simp only at f4;simp only[q5];have F:=ai12 RY.eq_1 gr5.eq_1 startR.eq_1 q1 b4 b5 b29 b1 b2 b3 b6 b7;repeat refine st ?_
   refine lL f3 ?_;repeat refine st ?_
   refine iL [(1000,29),(1001,9001),(1002,9002),(1003,9003),(1004,9004),(1005,9005)] f4 ?_;repeat refine st ?_
   exact aR
  ·unfold zov;unfold errA RY RYe at f4;simp only at f4;unfold errA;simp only;have f5:=zgB env [109,105,99,114,111,46,70,105,114,115,116] (ps.headD (-1)) (zs5 ps.tail (sentV (if k=2 then a2 else a8)));simp only[q5];have F:=ai12 RY.eq_1 gr5.eq_1 startR.eq_1 q1 b4 b5 b29 b1 b2 b3 b6 b7;repeat refine st ?_
   refine lL f3 ?_;repeat refine st ?_
   refine iL [(1000,29),(1001,9001),(1002,9002),(1003,9003),(1004,9004),(1005,9005)] f4 ?_;repeat refine tz1 f5 ?_
   exact aR
end
section
theorem zpF (env:Env) (x:InD) (hA:x.1.length<=4096) (hV:x.2.1.length<=4096) (hM:x.2.2.1.length<=4096) (hMs: ∀m∈x.2.2.1,Fits m.2.length 8) (hT:Fits x.2.2.2.1.length 24):
 ConI prog env 30 [8,11,14] (fun i=>i==8||(i==11||i==14)) (fun _=>[.agg [.seq 1 (x.1.map intAV), .seq 1 (x.2.1.map intAV), .seq 2 (x.2.2.1.map mmAV), .seq 2 (x.2.2.2.1.map tmAV),B x.2.2.2.2]]) (fun _=>[]) (fun _=>[(8,⟨1,x.1.map intAV,3,true⟩),(11,⟨1,x.2.1.map intAV,3,true⟩),(14,⟨2,x.2.2.2.1.map tmAV,86,true⟩)]) (fun g=> .agg [.row 8 (g 8), .row 11 (g 11), .seq 2 (x.2.2.1.map mmAV), .row 14 (g 14),B x.2.2.2.2]):=by
 have f0:=ze7 env (x.1.map intAV) (by rw[List.length_map];exact zae hA (by omega));have f1:=ze7 env (x.2.1.map intAV) (by rw[List.length_map];exact zae hV (by omega));have f2:=znl env (x.2.2.2.1.map tmAV) (by rw[List.length_map];exact hT);obtain⟨A,V,M,T,O⟩:=x;simp only at*;refine qi func30 call30 ntmps30 results30 ?_;intro vs esc hesc;obtain⟨e0,e1,e5⟩:=es3 hesc;have F:=ai3 e0 e1 e5;repeat refine tz3 f0 f1 f2 ?_
 refine nC 3 9000 0 2 130 2 ?_
 refine zab (D:=Nat) (fun j vs=>[(1, .loc 1 (vs 1) 0 0),(2, .loc 2 (vs 2) 0 0),(3, .loc 3 (vs 3) 0 0),(19, .seq 2 (M.map mmAV)),(20,I M.length),(21,I j)])
  (fun j vs=>[(1,⟨5,[[.seq 1 (A.map intAV), .seq 1 (V.map intAV), .seq 2 (M.map mmAV), .seq 2 (T.map tmAV),B O]],31,false⟩),(2,⟨5,[[nilS,nilS,nilS,nilS,B false]],31,false⟩),(3,⟨5,[[.row 8 (vs 8), .row 11 (vs 11), .row 9000 (vs 9000), .row 14 (vs 14),B O]],31,false⟩),(8,⟨1,A.map intAV,3,true⟩),(11,⟨1,V.map intAV,3,true⟩),(14,⟨2,T.map tmAV,86,true⟩),(9000,⟨2,(M.take j).map mmAV,130,true⟩)])
  (fun j _ esc=>j<=M.length/\esc 2=false/\esc 3=false/\esc 8=false/\esc 11=false/\esc 9000=false/\esc 14=false) (fun j=>M.length-j) 0 ?_ ?_ ?_ ?_
 ·refine⟨Nat.zero_le _,?_,?_,?_,?_,?_,?_⟩<;>simp only[go_sem,e0,e1,e5]
 ·exact qe
 ·exact qe
 try clear e0 e1 e5
 rintro j ws esc ⟨hj,e2,e3,e0,e1,e4,e5⟩;by_cases hlt:j<M.length
 ·obtain⟨m,hm⟩:=gE hlt;have q1:=nlt hlt;have q2:=zaa hlt (by omega);have f3:=ze7 env (m.2.map intAV) (by rw[List.length_map];exact hMs m (List.mem_of_getElem? hm));have htl:(M.take j).length=j:=by rw[List.length_take];omega
  have hf:Fits (j+1) 32:=zae (by omega) (by omega);have htk:M.take (j+1)=M.take j++[m]:=by rw[List.take_add_one,hm];rfl
  have F:=ai12 mmAV.eq_1 q1 q2 hm htl hf e0 e1 e2 e3 e4 e5;repeat refine tz1 f3 ?_
  refine⟨j+1,⟨hlt,?_,?_,?_,?_,?_,?_⟩,?_,?_,by omega⟩;all_goals (first|(show _=false;simp only[go_sem,e0,e1,e2,e3,e4,e5];done)|skip)
  ·exact qe
  ·have F:=ai9 mmAV.eq_1 htk @List.map_append.{0,0} e0 e1 e2 e3 e4 e5;exact qe
 obtain rfl:j=M.length:=by omega
 have q1:=nl M.length;have hta:M.take M.length=M:=List.take_length;have F:=ai8 q1 hta e0 e1 e2 e3 e4 e5;repeat refine st ?_
 refine zds [(9000,⟨2,M.map mmAV,130,true⟩)] ?_ ?_
 ·exact qe
 have F:=ai6 e0 e1 e2 e3 e4 e5;exact rI
def zkC (a2 a8:Addr):RunD×ErD->AV
 |(r,none)=> .tuple [.agg [ints34 r.act,ints34 r.vars, .seq 2 (r.mem.map mmAV), .seq 2 (r.tms.map tmAV),B r.over], .agg [ints34 r.outs, .seq 2 (r.rais.map tmAV)],nilE]
 |(_,some e)=> .tuple [.agg [nilS,nilS,nilS,nilS,B false], .agg [nilS,nilS],errV (-1) (errA a2 a8 (some e))]
def begR (x:InD):RunD:=⟨x.1,x.2.1,x.2.2.1,x.2.2.2.1,x.2.2.2.2,[],[]⟩
theorem ztx (env:Env) (a1 a2 a8:Addr) (c:ChD) (d now:Int) (E:RunEnv env a1 a2 a8 c d now) (x:InD) (hA:x.1.length<=100) (hV:x.2.1.length<=4096) (hM:x.2.2.1.length<=4096) (hMs: ∀m∈x.2.2.1,Fits m.2.length 8) (hT:Fits x.2.2.2.1.length 24) (ts:List Nat)
 (fr:Con prog env 29 [Sg [109,105,99,114,111,46,83,116,101,112],zah c, .agg (inE x),I d] nilE)
 (ff:ConI prog env 33 [1000,1001,1002,1003,1004,1005] (fun _=>false) (fun g=>[.loc 1000 (g 1000) 0 0, .seq 1 (ts.map zac)]) (RY c d now (begR x)) (RY c d now (begR x)) (fun _=>B true))
 (fs:ConI prog env 35 [1000,1001,1002,1003,1004,1005] gr5 (fun g=>[.loc 1000 (g 1000) 0 0, .seq 1 (ts.map zac)]) (RY c d now (begR x)) (RY c d now (stepP c d now (begR x) ts).1) (fun _=>errA a2 a8 (stepP c d now (begR x) ts).2)):
 Con prog env 10 [zah c, .agg (inE x), .seq 1 (ts.map zac),I d,I now] (zkC a2 a8 (stepP c d now (begR x) ts)):=by
 have f1:=zas env c E.hs;have f2:=zpF env x (by omega) hV hM hMs hT;have f3:=ziF env now;rw[decide_eq_true E.hn]at f3;unfold inE at fr |-;unfold zah at f1 fr |-;unfold chAV at f1;unfold RY RYe at ff;obtain⟨A,V,M,T,O⟩:=x;unfold begR at ff fs |-;simp only at*;generalize stepP c d now _ ts=X at*;refine qf func10 call10 ntmps10 results10 ?_;repeat refine tz01 fr ?_
 refine iL0 [(8,9001),(11,9002),(14,9003)] f2 ?_
 iterate 9 (first|refine st0 ?_|refine cC0 f1 ?_)
 show awp _ _ _ _ _ _;refine nC0 33 9004 0 5 3 1 ?_;refine nC0 33 9005 0 6 114 2 ?_;repeat refine tz01 f3 ?_
 refine iL0 [(1000,33),(1001,9001),(1002,9002),(1003,9003),(1004,9004),(1005,9005)] ff ?_;repeat refine st0 ?_
 rcases X with⟨r1,_|⟨k,ps⟩⟩
 ·unfold errA RY RYe at fs;simp only at fs;unfold zkC;have F:=gr5.eq_1;repeat refine st ?_
  refine iL [(1000,33),(1001,9001),(1002,9002),(1003,9003),(1004,9004),(1005,9005)] fs ?_;repeat refine st ?_
  exact aR
 ·unfold errA RY RYe at fs;simp only at fs;unfold zkC errA;simp only;have f5:=zgB env [109,105,99,114,111,46,83,116,101,112] (ps.headD (-1)) (zs5 ps.tail (sentV (if k=2 then a2 else a8)));have F:=gr5.eq_1;repeat refine st ?_
  refine iL [(1000,33),(1001,9001),(1002,9002),(1003,9003),(1004,9004),(1005,9005)] fs ?_;repeat refine tz1 f5 ?_
  exact aR
end
section
end

end Go.Proofs.YtbpmkofnfgdegaaGreatDoor