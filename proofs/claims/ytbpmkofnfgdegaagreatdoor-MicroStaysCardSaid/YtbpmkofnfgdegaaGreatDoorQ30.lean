/- What the row of MicroStays gives: the table of bits and four errors. -/
import Derived.Test.YtbpmkofnfgdegaaGreatDoorQ29
import Derived.Test.YtbpmkofnfgdegaaGreatDoorQ8
import Derived.Test.YtbpmkofnfgdegaaGreatDoorQ6
import Derived.Test.YtbpmkofnfgdegaaGreatDoorQ20
import Derived.Test.YtbpmkofnfgdegaaGreatDoorQ10
set_option maxRecDepth 100000
set_option maxHeartbeats 16000000
set_option linter.unusedSimpArgs false
namespace Go.Proofs.YtbpmkofnfgdegaaGreatDoor
open Go.Proofs.Tryz
section
open Go.RowKit
theorem Con.weak {P:Program} {env:Env} {f:FuncId} {cs:List AV} {res' res:AV} (h:Con P env f cs res') (hs:RStr res' res):Con P env f cs res:=by
 refine⟨h.enter,fun w S vs hE hl hv=>(h.calls w S vs hE hl hv).mono ?_⟩;rintro ex w' ⟨v,rfl,hb,S1,h1,h2,h3,hr⟩;exact⟨v,rfl,hb,S1,h1,h2,h3,hs _ _ _ _ hr⟩
theorem zg6 (c:ChD):sortL c []=[]:=by simp[sortL]
theorem step_nil (c:ChD) (d now:Int) (x:InD):stepP c d now (begR x) []=(begR x,none):=by
 have e:goneR c (begR x).act []=[]:=rfl;unfold stepP;simp only;rw[e,zg6]
 show (match zeq c d now { begR x with mem:=(begR x).mem } []with
  |(r2,none)=>enterP c d now r2 (zL (sortL c (zL [])))
  |y=>y)=_
 rw[show zL []=[] from rfl,zg6]
 show (match zdI c (begR x) [] []with
  |((r1,none),o)=>zeL c r1 (zL (sortL c o))
  |(y,_)=>y)=_
 show zeL c (begR x) (zL (sortL c []))=_;rw[zg6];rfl
def undB (c:ChD) (ts:List Nat) (i:Int):Bool:=ts.any fun n=>decide (0<=(trAt c n).target)&&aboveB c (domT c (trAt c n)) i
def undK (c:ChD) (ts:List Nat) (i:Int) (j:Nat):Bool:=undB c (ts.take j) i
theorem ztH {c:ChD} {ts:List Nat} {i:Int} {j n:Nat} {t:TrD} (hn:ts[j]? =some n) (ht:c.trans[n]? =some t):undK c ts i (j+1)=(undK c ts i j||(decide (0<=t.target)&&aboveB c (domE c t.src t.target) i)):=by
 unfold undK undB;rw[zbb hn,List.any_append];simp[zci ht,domT]
theorem stay {c:ChD} (h:Full c) {act:List Int} (hb:lgB c act=true) {mem:List MemD} (hm:zbd c mem=true) {ts:List Nat} (hf:Fit c act ts) {A:List Int} (hA: ∀y,y∈A↔zdc c act mem ts y) {i:Int} (hu:undB c ts i=false):A.contains i=act.contains i:=by
 have no: ∀n∈ts,¬zgz c (trAt c n) i:=fun n hn hl=>by
  have:undB c ts i=true:=List.any_eq_true.2 ⟨n,hn,by simp[hl.1,hl.2]⟩;rw[hu]at this;cases this
 rw[Bool.eq_iff_iff,List.contains_iff_mem,List.contains_iff_mem,hA];constructor
 ·rintro(⟨q,_⟩|⟨n,hn,q⟩)
  ·exact q
  ·exact(no n hn ⟨q.1,zoo h ((zo0 h hb hf hm hn).uni q.1).bel q.2⟩).elim
 ·exact fun q=> .inl ⟨q,no⟩
theorem zfS (env:Env) (a1 a2 a8:Addr) (he:ChEnv env a1 a8) (h2:env 2=some (sentV a2)) (hT: ∀W,env.inv W->TabAt W) (c:ChD) (hcf:zeP c) (x:InD) (hx:zj3 x) (ev:List UInt8) (d n:Int):Con prog env 3 [.agg (zbD c x ev d n)] (B true):=by
 have fa:=zqh env a1 a2 a8 he h2 hT;have fr:=zmu env c x ev d n;cases hg:zhK c with
 | false=>
   have fm:=zmS env c hg;unfold zfe at fr;rw[hg,Bool.not_false,Bool.true_or,Bool.true_or,Bool.true_or]at fr;unfold chAV at fm;unfold zbD at fr |-;refine qf func3 call3 ntmps3 results3 ?_;repeat refine tz03 fm fr fa ?_
   exact aR0
 |true=>
 have h:=zsn hg;have hs:=zjn (zsm hg);have fm:=zpE env a1 a8 he hT c hcf hg;unfold chAV zah at fm;cases hr:zfe c x with
 | true=>
   rw[hr]at fr;unfold zbD at fr |-;refine qf func3 call3 ntmps3 results3 ?_;repeat refine tz03 fm fr fa ?_
   exact aR0
 |false=>
 rw[hr]at fr;unfold zfe at hr;rw[hg,Bool.not_true,Bool.false_or,Bool.or_eq_false_iff,Bool.or_eq_false_iff,decide_eq_false_iff_not,decide_eq_false_iff_not,decide_eq_false_iff_not]at hr;obtain⟨⟨l1,l2⟩,l3⟩:=hr;obtain⟨hF,hTm⟩:=zut hx;have hL:LiteI (rcI x):=⟨show x.1.length<=1000000 by omega,show x.2.1.length<=1000000 by omega,show x.2.2.1.length<=1000000 by omega,hTm.2⟩;have hnm: ∀t∈x.2.2.2.1,t.1.length<=9223372036854775807:=fun t ht=>zil (hx.1.2.2.2 t ht);have fy:=zmy env c h x hL hF ev d n;by_cases hy:rdyI c x d=0
 case neg=>
  have q0:(rdyI c x d != 0)=true:=by simpa using hy
  generalize rdyI c x d=y at*;unfold zbD at fr fy |-;refine qf func3 call3 ntmps3 results3 ?_;have F:=q0;repeat refine tz4 fm fr fy fa ?_
  exact aR
 obtain⟨b1,b2,b3⟩:=ztX hy;rw[hy]at fy;by_cases q1:n<0
 ·unfold zbD at fr fy |-;refine qf func3 call3 ntmps3 results3 ?_;have F:=q1;repeat refine tz4 fm fr fy fa ?_
  exact aR
 by_cases q2:1099511627776<n
 ·unfold zbD at fr fy |-;refine qf func3 call3 ntmps3 results3 ?_;have F:=ai q1 q2;repeat refine tz4 fm fr fy fa ?_
  exact aR
 have hI:=zjS b1;have hA:Asked c x d:=zu0 b1 b3 (by omega);obtain⟨l,hl,hk⟩:=zrR hA.lg;have rdy:=fun op=>zkN env a1 a8 he c h hs x hL hnm hF op d b1 b2 b3;have fe:=zia env a1 a2 a8 he h2 c h hs x d hA ev (rdy _) l hl hk
 have hi: ∀i∈innL c l,(i:Int)∈x.1:=fun i hi=>by
  rw[hl];exact List.mem_map.2 ⟨i,zv4 h hk hi,rfl⟩
 obtain⟨ts,E0,hf,fe⟩: ∃ts E0,Fit c x.1 ts/\Con prog env 12 [zah c, .agg (inE x),Sg ev,I d] (.tuple [.seq 1 (ts.map zac),E0]):=by
  cases hv:zpZ c x.1 (woX c x.1 x.2.1 d) ev (innL c l) with
  | error m=>
    rw[hv]at fe;exact⟨[],_,Fit.nil c x.1,fe.weak (.tuple (.cons (.nil 1) (.cons (.refl _) .nil)))⟩
  | ok f=>
    rw[hv]at fe;exact⟨f,_,zuF h (zc4 hA.lg) hi hv,fe⟩
 have hn:0<=n/\n<=1099511627776:=⟨by omega,by omega⟩;have E:RunEnv env a1 a2 a8 c d n:=⟨he,h2,h,hs,b3,hn⟩;have hVl:=hI.len;obtain⟨hvl,_⟩:=zuS (zsm hg);have f1:=zh8 env a1 a2 a8 c d n E x hI (by omega) (by omega) hTm [] (Fit.nil c x.1) (rdy _);rw[step_nil]at f1;have f1:=f1.args (cs':=[zah c, .agg (inE x),nilS,I d,I n]) (.cons (.refl _) (.cons (.refl _) (.cons (.nil 1) (.cons (.refl _) (.cons (.refl _) .nil)))));have f2:=zh8 env a1 a2 a8 c d n E x hI (by omega) (by omega) hTm ts hf (rdy _);have f3:=zmz env x.1 x.2.1 x hx.1 rfl rfl;rw[show ((x.1==x.1)&&(x.2.1==x.2.1))=true by simp]at f3;have hsr:=zo3 h b3 hn hI b2 hf;have htl:=zsv h hf;unfold begR zkC at f1;simp only at f1;unfold zah inE at f1 f2 fe;unfold inE at f3;try clear rdy hi
 rcases hX:stepP c d n (begR x) ts with⟨r,_|⟨k,ps⟩⟩
 case some=>
  rw[hX]at f2;unfold zkC errA errV at f2;simp only at f2;unfold zbD at fr fy |-;refine qf func3 call3 ntmps3 results3 ?_;have F:=ai q1 q2;repeat refine tz8 fm fr fy fe f1 f2 f3 fa ?_
  exact aR
 rw[hX]at f2 hsr;obtain⟨hrr,hir,hmem⟩:=hsr rfl;have hrf:=zvH h hvl hrr hir;have hlg:=(zjS hir).lg;have hact:r.act.length<=100:=hrf.act;change lgB c r.act=true at hlg;have f4:=zhi env c h r.act (by omega);rw[hlg]at f4;have fA:=fun(k i:Int)=>zc2 env c h.toRight k i;have fD:=fun(t:TrD) (ht:inZ c t.src=true)=>zjw env c h.toRight t ht;have fI:=fun(i:Nat)=>zdC env r.act i (by omega);have fI0:=fun(i:Nat)=>zdC env x.1 i (by omega);obtain⟨_,hmm⟩:=zdz h hI.lg hI.mem (zlm h hI.lg hf);have hstay:=fun(i:Nat) (hu:undB c ts i=false)=>stay h hI.lg hmm hf hmem hu;have hfew:=h.few;have hsrc:=fun(k:Nat) (t:TrD) (ht:c.trans[k]? =some t)=>(h.src ht).1;have his:=zvn hf;unfold zkC at f2;unfold chAV at f4 fA fD;simp only at f2;unfold zbD at fr fy |-;refine qf func3 call3 ntmps3 results3 ?_;have F:=ai q1 q2;repeat refine tz8 fm fr fy fe f1 f2 f3 fa ?_
 refine zab (D:=Nat) (fun i vs=>[(1, .loc 1 (vs 1) 0 0),(7, .seq 1 (ts.map zac)),(9, .loc 9 (vs 9) 0 0),(12,I i)]) (fun i vs=>[(1,⟨13,[zbD c x ev d n],33,false⟩),(9,⟨5,[[ints34 r.act,ints34 r.vars, .seq 2 (r.mem.map mmAV), .seq 2 (r.tms.map tmAV),B r.over]],31,false⟩)]) (fun i _ esc=>i<=c.states.length/\esc 1=false/\esc 9=false) (fun i=>c.states.length-i) 0 ?_ ?_ ?_ ?_
 ·exact⟨Nat.zero_le _,by simp only[go_sem,and_self]⟩
 ·exact qe
 ·have F:=zbD.eq_1
  (simp only[go_sem,F])
  try rfl
 rintro i ws es ⟨hil,e1,e9⟩;by_cases hlt:i<c.states.length
 ·have k1:=nlt hlt;have k2:=zaa hlt (by omega);have fi:=fI i;have fi0:=fI0 i;have F:=ai5 zbD.eq_1 k1 k2 e1 e9;repeat refine st ?_
  refine zab (D:=Nat) (fun k vs=>[(1, .loc 1 (vs 1) 0 0),(7, .seq 1 (ts.map zac)),(9, .loc 9 (vs 9) 0 0),(12,I i),(13,B (undK c ts i k)),(14,I k)]) (fun k vs=>[(1,⟨13,[zbD c x ev d n],33,false⟩),(9,⟨5,[[ints34 r.act,ints34 r.vars, .seq 2 (r.mem.map mmAV), .seq 2 (r.tms.map tmAV),B r.over]],31,false⟩)]) (fun k _ esc=>k<=ts.length/\esc 1=false/\esc 9=false) (fun k=>ts.length-k) 0 ?_ ?_ ?_ ?_
  ·exact⟨Nat.zero_le _,by simp only[go_sem,e1,e9,and_self]⟩
  ·(simp only[go_sem,F])
   try rfl
  ·exact qe
  try clear e1 e9
  rintro k us fs ⟨hkl,e1,e9⟩;by_cases hlk:k<ts.length
  ·obtain⟨m,hx2⟩:=gE hlk;obtain⟨t,ht⟩:=his m (List.mem_of_getElem? hx2);have k3:=nlt hlk;have k4:=zaa hlk (by omega);have k5:=nlt (List.getElem?_eq_some_iff.1 ht).1;have k6:=ztH (i:=(i:Int)) hx2 ht;have fd:=fD t (hsrc m t ht);have fb:=fA (domE c t.src t.target) i;unfold trAV at fd;cases hu:undK c ts i k with
   | true=>
     rw[hu,Bool.true_or]at k6;have F:=ai10 zbD.eq_1 trAV.eq_1 zac.eq_1 hx2 ht k3 k4 k5 e1 e9;repeat refine tz2 fd fb ?_
     refine⟨k+1,⟨hlk,by simp only[go_sem,e1,e9,and_self]⟩,?_,?_,by omega⟩
     ·simp only[k6];exact qe
     ·exact qe
   | false=>
     rw[hu,Bool.false_or]at k6;by_cases h0:0<=t.target
     ·rw[decide_eq_true h0,Bool.true_and]at k6;have F:=ai11 zbD.eq_1 trAV.eq_1 zac.eq_1 hx2 ht h0 k3 k4 k5 e1 e9;repeat refine tz2 fd fb ?_
      refine⟨k+1,⟨hlk,by simp only[go_sem,e1,e9,and_self]⟩,?_,?_,by omega⟩
      ·simp only[k6];exact qe
      ·exact qe
     ·rw[decide_eq_false h0,Bool.false_and]at k6;have F:=ai11 zbD.eq_1 trAV.eq_1 zac.eq_1 hx2 ht h0 k3 k4 k5 e1 e9;repeat refine tz2 fd fb ?_
      refine⟨k+1,⟨hlk,by simp only[go_sem,e1,e9,and_self]⟩,?_,?_,by omega⟩
      ·simp only[k6];exact qe
      ·exact qe
  ·obtain rfl:k=ts.length:=by omega
   have k3:=nl ts.length;have ku:undK c ts i ts.length=undB c ts i:=by unfold undK;rw[List.take_length]
   cases hu:undB c ts i with
   | true=>
     rw[hu]at ku;have F:=ai6 zbD.eq_1 k2 k3 ku e1 e9;repeat refine tz2 fi fi0 ?_
     refine⟨i+1,⟨hlt,by simp only[go_sem,e1,e9,and_self]⟩,?_,?_,by omega⟩
     ·exact qe
     ·exact qe
   | false=>
     rw[hu]at ku;have hst:=hstay i hu;rw[hst]at fi;generalize x.1.contains (i:Int)=b at*;have k7:(b != b)=false:=by simp
     have F:=ai7 zbD.eq_1 k2 k3 k7 ku e1 e9;repeat refine tz2 fi fi0 ?_
     refine⟨i+1,⟨hlt,by simp only[go_sem,e1,e9,and_self]⟩,?_,?_,by omega⟩
     ·exact qe
     ·exact qe
 ·obtain rfl:i=c.states.length:=by omega
  have k1:=nl c.states.length;have F:=ai4 zbD.eq_1 k1 e1 e9;repeat refine tz2 f4 fa ?_
  exact aR
end
section
open Go.RowKit Go.ChangeShapes
structure StW (w:World) (a1 a2 a8:Addr):Prop where
 s1:Sent w 1 a1
 s2:Sent w 2 a2
 s8:Sent w 7 a8
 tab:TabAt w
def zvF (a1 a2 a8:Addr) (g:Nat):Option AV:=
 if g=1 then some (sentV a1) else
 if g=2 then some (sentV a2) else
 if g=7 then some (sentV a8) else none
def ztP (a1 a2 a8:Addr):Env:=⟨zvF a1 a2 a8,fun w=>StW w a1 a2 a8,fun _ _ h hb=>⟨h.s1.below hb,h.s2.below hb,h.s8.below hb,h.tab.below hb⟩⟩
theorem ztO (a1 a2 a8:Addr):ChEnv (ztP a1 a2 a8) a1 a8:=⟨rfl,rfl⟩
theorem zqV (a1 a2 a8:Addr): ∀W,(ztP a1 a2 a8).inv W->TabAt W:=fun _ h=>StW.tab h
theorem ztN {a1 a2 a8:Addr} {w:World} (h:StW w a1 a2 a8):EnvOk (ztP a1 a2 a8) (fun b _=>b<w.heap.size) w:=by
 refine⟨h,fun b o hb=>hb,fun g c hg=> ?_⟩;have hg:zvF a1 a2 a8 g=some c:=hg;unfold zvF at hg;split at hg
 ·rename_i e;subst e;cases hg;exact⟨_,h.s1.1,rfl,zkc h.s1.1, .lit _⟩
 split at hg
 ·rename_i e;subst e;cases hg;exact⟨_,h.s2.1,rfl,zkc h.s2.1, .lit _⟩
 split at hg
 ·rename_i e;subst e;cases hg;exact⟨_,h.s8.1,rfl,zkc h.s8.1, .lit _⟩
 cases hg
theorem zpM {W:World} (h:laidMetH prog [("math/bits.deBruijn32tab",Rows.laid_math_bits_deBruijn32tab),("scrinium/api.ErrForm",Rows.laid_scrinium_api_ErrForm),("scrinium/api.ErrRange",Rows.laid_scrinium_api_ErrRange),("scrinium/api.ErrState",Rows.laid_scrinium_api_ErrState),("scrinium/api.ErrLong",Rows.laid_scrinium_api_ErrLong)] W): ∃a1 a2 a8,StW W a1 a2 a8:=by
 rw[MakeChecks.laidMetH_plain _ _ _ (by kernel_rfl)]at h;obtain⟨ps,hv,hnd,hrows⟩:=h;obtain⟨g0,t0,cs0,f0,p0,q0,hg0,ht0,hv0,hd0,hrest,rfl⟩:=hv;have hT:=zwu hg0 ht0 hv0 hd0
 obtain⟨adl,h1,h2,h3⟩:=zk7 (nm:= "*errors.errorString") Tryz.underlying43 Tryz.row160 Tryz.underlying309 Tryz.underlying333 rfl rfl Tryz.underlying9 (by kernel_rfl) (by kernel_rfl)
  [("scrinium/api.ErrForm",[102,111,114,109]),("scrinium/api.ErrRange",[114,97,110,103,101]),("scrinium/api.ErrState",[115,116,97,116,101]),("scrinium/api.ErrLong",[108,111,110,103])] [1,2,0,7] q0 hrest (by kernel_rfl) (by
    intro g hg;simp at hg
    rcases hg with rfl|rfl|rfl|rfl<;>kernel_rfl) (fun b off hh=>hrows b off (List.mem_append_right _ hh))
 match adl,h1 with
 |[a1,a2,a7,a8],_=>exact⟨a1,a2,a8,h2 0 _ _ rfl rfl,h2 1 _ _ rfl rfl,h2 3 _ _ rfl rfl,hT⟩
end

end Go.Proofs.YtbpmkofnfgdegaaGreatDoor