/- tree.New, of a right chart. -/
import Derived.Test.YtbpmkofnfgdegaaGreatDoorM12
import Derived.Test.YtbpmkofnfgdegaaGreatDoorM6
import Derived.Test.YtbpmkofnfgdegaaGreatDoorM11
import Derived.Test.YtbpmkofnfgdegaaGreatDoorM10
import Derived.LaidHandle
import Derived.Test.YtbpmkofnfgdegaaGreatDoorM9
import Derived.Test.YtbpmkofnfgdegaaGreatDoorM8
set_option maxRecDepth 100000
set_option maxHeartbeats 8000000
set_option linter.unusedSimpArgs false
namespace Go.Proofs.YtbpmkofnfgdegaaGreatDoor
open Go.Proofs.Tryz
section
open Go.RowKit
theorem zk4 {n:Nat} (h:n<=maxLen):n<=9223372036854775807:=by unfold maxLen at h; omega
theorem zdS {l:List ActD} (h:l.length<=maxLen/\ ∀y∈l,zdA y):l.length<=9223372036854775807/\ ∀a∈l,a.name.length<=9223372036854775807:=⟨zk4 h.1,fun a ha=>zk4 (h.2 a ha).1⟩
theorem znf (env:Env) (a1 a8:Addr) (he:ChEnv env a1 a8) (c:ChD) (hn:c.states.length<=1000000) (i:Nat) (s:StD) (hs:c.states[i]? =some s) (hf:zjT s):Con prog env 172 [.agg (chAV c),I i] (B (zaq c i s)):=by
 have hi:i<c.states.length:=(List.getElem?_eq_some_iff.1 hs).1;have k0:=nlt hi;have f1:=zbK env s.name (zk4 hf.1);have f2:=zoZ env c s.name hn;have f3:=zkZ env c i s hs;have f5:=zgk env a1 a8 he c s.inn (zdS hf.2.1).1 (zdS hf.2.1).2;have f6:=zgk env a1 a8 he c s.out (zdS hf.2.2).1 (zdS hf.2.2).2;unfold zaq;refine qf func172 call172 ntmps172 results172 ?_;cases e1:zax s.name
 ·have F:=ai5 chAV.eq_1 k0 hs stAV.eq_1 e1;repeat (first | refine st ?_ | refine cC f1 ?_ | refine cC f2 ?_ | refine cC f3 ?_)
  exact aR
 cases e2:(zg6 c s.name==(i:Int))
 ·have F:=ai6 chAV.eq_1 k0 hs stAV.eq_1 e1 e2;repeat (first | refine st ?_ | refine cC f1 ?_ | refine cC f2 ?_ | refine cC f3 ?_)
  exact aR
 cases e3:zaH c i s
 ·have F:=ai7 chAV.eq_1 k0 hs stAV.eq_1 e1 e2 e3;repeat (first | refine st ?_ | refine cC f1 ?_ | refine cC f2 ?_ | refine cC f3 ?_)
  exact aR
 have f4:=zng env c i s hs hn (zoV hi e3) (zk4 hf.2.1.1) (zk4 hf.2.2.1);cases e4:zap c i s
 ·have F:=ai8 chAV.eq_1 k0 hs stAV.eq_1 e1 e2 e3 e4;repeat (first | refine st ?_ | refine cC f1 ?_ | refine cC f2 ?_ | refine cC f3 ?_ | refine cC f4 ?_)
  exact aR
 cases e5:zbq c.vars.length c.states.length s.inn
 ·have F:=ai9 chAV.eq_1 k0 hs stAV.eq_1 e1 e2 e3 e4 e5;repeat (first | refine st ?_ | refine cC f1 ?_ | refine cC f2 ?_ | refine cC f3 ?_ | refine cC f4 ?_ | refine cC f5 ?_)
  exact aR
 ·have F:=ai9 chAV.eq_1 k0 hs stAV.eq_1 e1 e2 e3 e4 e5;repeat (first | refine st ?_ | refine cC f1 ?_ | refine cC f2 ?_ | refine cC f3 ?_ | refine cC f4 ?_ | refine cC f5 ?_ | refine cC f6 ?_)
  exact aR
theorem zgl {c:ChD} {nm:List UInt8} {j:Nat} {x:VarD} (h:newVar c nm j=true) (hx:c.vars[j]? =some x) (e:(x.name==nm)=false):newVar c nm (j+1)=true:=by
 unfold newVar at h |-;exact zbH h hx (by rw [e]; rfl)
theorem zq6 (env:Env) (c:ChD) (hn:c.vars.length<=1000000) (i:Nat) (v:VarD) (hv:c.vars[i]? =some v) (hf:zgE v):Con prog env 171 [.agg (chAV c),I i] (B (varB c i v)):=by
 have hi:i<c.vars.length:=(List.getElem?_eq_some_iff.1 hv).1;have k0:=nlt hi;have k9:(i:Int)<=(c.vars.length:Int):=by omega
 have f1:=zbK env v.name (zk4 hf);have f2:=zbk env v.start;have hlen:(c.vars.take i).length=i:=by rw [List.length_take]; omega
 refine qf func171 call171 ntmps171 results171 ?_;have F:=ai7 chAV.eq_1 k0 k9 hv zca.eq_1 hlen Nat.sub_zero;repeat refine st ?_
 refine zab (D:=Nat) (fun j vs=>[(5, .loc 5 (vs 5) 0 0),(16,varsAV (c.vars.take i)),(17,I i),(18,I j)]) (fun _ _=>[(5,⟨2,[zca v],110,false⟩)]) (fun j _ _=>j<=i/\newVar c v.name j=true) (fun j=>i-j) 0 ?_ ?_ ?_ ?_
 ·exact⟨Nat.zero_le _,rfl⟩
 ·exact qe
 ·exact qe
 rintro j ws esc ⟨hj,hall⟩;by_cases hlt:j<i
 ·obtain⟨x,hx,_⟩:=zal (show j<c.vars.length by omega);have hx':(c.vars.take i)[j]? =some x:=by rw [List.getElem?_take,if_pos hlt]; exact hx
  have k1:=nlt hlt;have k2:=zaa hlt (by omega);cases e:(x.name==v.name)
  ·have F:=ai6 k1 k2 hx' hlen zca.eq_1 e;repeat refine st ?_
   refine⟨j+1,⟨hlt,zgl hall hx e⟩, ?_, ?_, ?_⟩
   ·exact qe
   ·exact qe
   ·omega
  ·rw [show varB c i v=false by unfold varB newVar; rw [zfa (p:=fun x:VarD=> !(x.name==v.name)) hx' (by rw [e]; rfl)]; rfl];have F:=ai6 k1 k2 hx' hlen zca.eq_1 e;repeat refine st ?_
   exact aR
 ·have k1: ¬(j:Int)< (i:Int):=by omega
  obtain rfl:j=i:=by omega
  have hr:varB c j v=(zax v.name&& !(v.name == [100,97,116,97])&& !(v.name == [105,110])&&zaj v.start):=by
   unfold varB zaj;rw [hall];simp only [Bool.true_and,Bool.and_assoc]
  rw [hr];cases e1:zax v.name
  ·have F:=ai3 k1 zca.eq_1 e1;repeat (first | refine st ?_ | refine cC f1 ?_ | refine cC f2 ?_)
   exact aR
  cases e2:(v.name == [100,97,116,97])
  ·cases e3:(v.name == [105,110])
   ·have F:=ai5 k1 zca.eq_1 e1 e2 e3;repeat (first | refine st ?_ | refine cC f1 ?_ | refine cC f2 ?_)
    exact aR
   ·have F:=ai5 k1 zca.eq_1 e1 e2 e3;repeat (first | refine st ?_ | refine cC f1 ?_ | refine cC f2 ?_)
    exact aR
  ·have F:=ai4 k1 zca.eq_1 e1 e2;repeat (first | refine st ?_ | refine cC f1 ?_ | refine cC f2 ?_)
   exact aR
end
section
open Go.RowKit
theorem zoX (env:Env) (a1 a8:Addr) (he:ChEnv env a1 a8) (c:ChD) (t:TrD) (hf:zjS t):Con prog env 175 [.agg (chAV c), .agg (trAV t)] (B (zck c t)):=by
 have f1:=zk0 env c t.src;have f3:=zbK env t.event (zk4 hf.1);have f4:=zjl env a1 a8 he c t.guard;have f5:=zgk env a1 a8 he c t.acts (zdS hf.2.2).1 (zdS hf.2.2).2;have f6:=zk0 env c t.target;have z1:=zbM t.guard;by_cases h1:0<=t.src
 case neg=>
  rw [show zck c t=false by unfold zck zaU at_; rw [if_neg h1]; rfl];refine qf func175 call175 ntmps175 results175 ?_;have F:=ai3 chAV.eq_1 trAV.eq_1 h1;repeat (first | refine st ?_ | refine cC f1 ?_)
  exact aR
 obtain⟨m,hm⟩:=zcB h1;by_cases h2:(m:Int)< (c.states.length:Int)
 case neg=>
  rw [show zck c t=false by unfold zck zaU; rw [hm,zbd,List.getElem?_eq_none (by omega)]; rfl];have hm':(t.src< (c.states.length:Int))=False:=by rw [hm]; simpa using h2
  refine qf func175 call175 ntmps175 results175 ?_;have F:=ai4 chAV.eq_1 trAV.eq_1 h1 hm';repeat (first | refine st ?_ | refine cC f1 ?_)
  exact aR
 obtain⟨q,hq,_⟩:=zal (show m<c.states.length by omega);have f2:=zc2 env q;have hr:zck c t=(zco q&&((t.event == [])||zax t.event)&&((t.guard == [])||zaF t.guard c.vars.length c.states.length)&&zbq c.vars.length c.states.length t.acts&&((t.target == -1)||(decide (0<=t.target)&&decide (t.target<c.states.length)))):=by unfold zck; rw [hm,zdO hq]
 rw [hr];rw [hm] at f1;cases e1:zco q
 ·rw [Bool.false_and,Bool.false_and,Bool.false_and,Bool.false_and];refine qf func175 call175 ntmps175 results175 ?_;have F:=ai7 chAV.eq_1 trAV.eq_1 stAV.eq_1 hm h2 hq e1;repeat (first | refine st ?_ | refine cC f1 ?_ | refine cC f2 ?_)
  exact aR
 have body:((t.event == [])||zax t.event)=true->Con prog env 175 [.agg (chAV c), .agg (trAV t)] (B (((t.guard == [])||zaF t.guard c.vars.length c.states.length)&&zbq c.vars.length c.states.length t.acts&&((t.target == -1)||(decide (0<=t.target)&&decide (t.target<c.states.length))))):=fun hev=>by
  have go: ∀ {b1 b2:Bool},(t.event == [])=b1->(b1=false->zax t.event=b2)->(b1||b2)=true->Con prog env 175 [.agg (chAV c), .agg (trAV t)] (B (((t.guard == [])||zaF t.guard c.vars.length c.states.length)&&zbq c.vars.length c.states.length t.acts&&((t.target == -1)||(decide (0<=t.target)&&decide (t.target<c.states.length))))):=fun {b1 b2} g1 g2 g3=>by
   refine qf func175 call175 ntmps175 results175 ?_;cases b1 with
   | true=>
     cases e4:(t.guard == []) with
     | true=>
       cases e6:zbq c.vars.length c.states.length t.acts with
       | false=>
         have F:=ai11 chAV.eq_1 trAV.eq_1 stAV.eq_1 hm h2 hq e1 g1 z1 e4 e6;repeat (first | refine st ?_ | refine cC f1 ?_ | refine cC f2 ?_ | refine cC f3 ?_ | refine cC f4 ?_ | refine cC f5 ?_ | refine cC f6 ?_)
         exact aR
       | true=>
         cases e7:(t.target == -1) with
         | false=>
           have F:=ai12 chAV.eq_1 trAV.eq_1 stAV.eq_1 hm h2 hq e1 g1 z1 e4 e6 e7;repeat (first | refine st ?_ | refine cC f1 ?_ | refine cC f2 ?_ | refine cC f3 ?_ | refine cC f4 ?_ | refine cC f5 ?_ | refine cC f6 ?_)
           exact aR
         | true=>
           have F:=ai12 chAV.eq_1 trAV.eq_1 stAV.eq_1 hm h2 hq e1 g1 z1 e4 e6 e7;repeat (first | refine st ?_ | refine cC f1 ?_ | refine cC f2 ?_ | refine cC f3 ?_ | refine cC f4 ?_ | refine cC f5 ?_ | refine cC f6 ?_)
           exact aR
     | false=>
       cases e5:zaF t.guard c.vars.length c.states.length with
       | false=>
         have F:=ai11 chAV.eq_1 trAV.eq_1 stAV.eq_1 hm h2 hq e1 g1 z1 e4 e5;repeat (first | refine st ?_ | refine cC f1 ?_ | refine cC f2 ?_ | refine cC f3 ?_ | refine cC f4 ?_ | refine cC f5 ?_ | refine cC f6 ?_)
         exact aR
       | true=>
         cases e6:zbq c.vars.length c.states.length t.acts with
         | false=>
           have F:=ai12 chAV.eq_1 trAV.eq_1 stAV.eq_1 hm h2 hq e1 g1 z1 e4 e5 e6;repeat (first | refine st ?_ | refine cC f1 ?_ | refine cC f2 ?_ | refine cC f3 ?_ | refine cC f4 ?_ | refine cC f5 ?_ | refine cC f6 ?_)
           exact aR
         | true=>
           cases e7:(t.target == -1) with
           | false=>
             have F:=ai13 chAV.eq_1 trAV.eq_1 stAV.eq_1 hm h2 hq e1 g1 z1 e4 e5 e6 e7;repeat (first | refine st ?_ | refine cC f1 ?_ | refine cC f2 ?_ | refine cC f3 ?_ | refine cC f4 ?_ | refine cC f5 ?_ | refine cC f6 ?_)
             exact aR
           | true=>
             have F:=ai13 chAV.eq_1 trAV.eq_1 stAV.eq_1 hm h2 hq e1 g1 z1 e4 e5 e6 e7;repeat (first | refine st ?_ | refine cC f1 ?_ | refine cC f2 ?_ | refine cC f3 ?_ | refine cC f4 ?_ | refine cC f5 ?_ | refine cC f6 ?_)
             exact aR
   | false=>
     have g2:=g2 rfl;obtain rfl:b2=true:=by simpa using g3
     cases e4:(t.guard == []) with
     | true=>
       cases e6:zbq c.vars.length c.states.length t.acts with
       | false=>
         have F:=ai12 chAV.eq_1 trAV.eq_1 stAV.eq_1 hm h2 hq e1 g1 g2 z1 e4 e6;repeat (first | refine st ?_ | refine cC f1 ?_ | refine cC f2 ?_ | refine cC f3 ?_ | refine cC f4 ?_ | refine cC f5 ?_ | refine cC f6 ?_)
         exact aR
       | true=>
         cases e7:(t.target == -1) with
         | false=>
           have F:=ai13 chAV.eq_1 trAV.eq_1 stAV.eq_1 hm h2 hq e1 g1 g2 z1 e4 e6 e7;repeat (first | refine st ?_ | refine cC f1 ?_ | refine cC f2 ?_ | refine cC f3 ?_ | refine cC f4 ?_ | refine cC f5 ?_ | refine cC f6 ?_)
           exact aR
         | true=>
           have F:=ai13 chAV.eq_1 trAV.eq_1 stAV.eq_1 hm h2 hq e1 g1 g2 z1 e4 e6 e7;repeat (first | refine st ?_ | refine cC f1 ?_ | refine cC f2 ?_ | refine cC f3 ?_ | refine cC f4 ?_ | refine cC f5 ?_ | refine cC f6 ?_)
           exact aR
     | false=>
       cases e5:zaF t.guard c.vars.length c.states.length with
       | false=>
         have F:=ai12 chAV.eq_1 trAV.eq_1 stAV.eq_1 hm h2 hq e1 g1 g2 z1 e4 e5;repeat (first | refine st ?_ | refine cC f1 ?_ | refine cC f2 ?_ | refine cC f3 ?_ | refine cC f4 ?_ | refine cC f5 ?_ | refine cC f6 ?_)
         exact aR
       | true=>
         cases e6:zbq c.vars.length c.states.length t.acts with
         | false=>
           have F:=ai13 chAV.eq_1 trAV.eq_1 stAV.eq_1 hm h2 hq e1 g1 g2 z1 e4 e5 e6;repeat (first | refine st ?_ | refine cC f1 ?_ | refine cC f2 ?_ | refine cC f3 ?_ | refine cC f4 ?_ | refine cC f5 ?_ | refine cC f6 ?_)
           exact aR
         | true=>
           cases e7:(t.target == -1) with
           | false=>
             have F:=ai14 chAV.eq_1 trAV.eq_1 stAV.eq_1 hm h2 hq e1 g1 g2 z1 e4 e5 e6 e7;repeat (first | refine st ?_ | refine cC f1 ?_ | refine cC f2 ?_ | refine cC f3 ?_ | refine cC f4 ?_ | refine cC f5 ?_ | refine cC f6 ?_)
             exact aR
           | true=>
             have F:=ai14 chAV.eq_1 trAV.eq_1 stAV.eq_1 hm h2 hq e1 g1 g2 z1 e4 e5 e6 e7;repeat (first | refine st ?_ | refine cC f1 ?_ | refine cC f2 ?_ | refine cC f3 ?_ | refine cC f4 ?_ | refine cC f5 ?_ | refine cC f6 ?_)
             exact aR
  exact go (b1:=(t.event == [])) (b2:=zax t.event) rfl (fun _=>rfl) hev
 cases e2:(t.event == [])
 ·cases e3:zax t.event
  ·rw [Bool.or_false,Bool.and_false,Bool.false_and,Bool.false_and,Bool.false_and];refine qf func175 call175 ntmps175 results175 ?_;have F:=ai9 chAV.eq_1 trAV.eq_1 stAV.eq_1 hm h2 hq e1 e2 e3;repeat (first | refine st ?_ | refine cC f1 ?_ | refine cC f2 ?_ | refine cC f3 ?_)
   exact aR
  ·simp only [Bool.or_true,Bool.true_and];exact body (by rw [e2,e3]; rfl)
 ·simp only [Bool.true_or,Bool.true_and];exact body (by rw [e2]; rfl)
end
section
open Go.RowKit
end
section
open Go.RowKit Go.ChangeShapes
theorem zni (env:Env) (a1 a8:Addr) (he:ChEnv env a1 a8) (c:ChD) (hc:zdZ c):Con prog env 117 [.agg (chAV c)] (ziF a1 a8 c):=
 zo0 env a1 a8 he c hc (fun hn i v hv=>zq6 env c (by omega) i v hv (hc.2.1.2 v (List.mem_of_getElem? hv))) (fun hn i s hs=>znf env a1 a8 he c (by omega) i s hs (hc.2.2.1.2 s (List.mem_of_getElem? hs))) (fun t ht=>zoX env a1 a8 he c t (hc.2.2.2.2 t ht))
end
section
open Go.RowKit
def rankAll:List Nat->Nat->List Nat->List Nat
 | [],_,rk=>rk
 | k::l,n,rk=>rankAll l (n+1) (rk.set k n)
theorem zgc: ∀(l:List Nat) (n:Nat) (rk:List Nat),(rankAll l n rk).length=rk.length
 | [],_,_=>rfl
 | k::l,n,rk=>by unfold rankAll; rw [zgc,List.length_set]
theorem zgd: ∀(l1 l2:List Nat) (n:Nat) (rk:List Nat),rankAll (l1++l2) n rk=rankAll l2 (n+l1.length) (rankAll l1 n rk)
 | [],_,_,_=>rfl
 | k::l1,l2,n,rk=>by
   show rankAll (l1++l2) (n+1) (rk.set k n)=rankAll l2 (n+(l1.length+1)) (rankAll l1 (n+1) (rk.set k n));rw [zgd,Nat.add_assoc,Nat.add_comm 1]
def TR (ps ks ms bs:List (List AV)) (lf:Value) (g:Nat->Nat) (rk l:List Nat):List (Nat×Row):=
 [(1000,⟨7,[[.seq 1 ps, .seq 1 ks, .seq 1 ms, .seq 1 bs, .row 1001 (g 1001), .row 1002 (g 1002), .lit lf]],173,false⟩),(1001,⟨1,rk.map zae,3,true⟩),(1002,⟨1,l.map zae,3,true⟩)]
def wkTo (c:ChD) (K:List Nat) (j:Nat):List Nat:=(K.take j).flatMap fun k=>k::walkL c k
theorem zn8 {c:ChD} {K:List Nat} {j k:Nat} (h:K[j]? =some k):wkTo c K (j+1)=wkTo c K j++k::walkL c k:=by
 unfold wkTo;rw [List.take_add_one,h,List.flatMap_append];simp
theorem zqM {c:ChD} (K:List Nat):wkTo c K K.length=K.flatMap fun k=>k::walkL c k:=by
 unfold wkTo;rw [List.take_length]
theorem zsx {c:ChD} (K:List Nat) (j:Nat):(wkTo c K j).length<=(K.flatMap fun k=>k::walkL c k).length:=by
 conv=>rhs; rw [<-List.take_append_drop j K,List.flatMap_append,List.length_append]
 exact Nat.le_add_right _ _
def znX (P:Program) (env:Env) (f:FuncId) (c:ChD) (ps ks ms bs:List (List AV)) (lf:Value) (i:Int) (l rk:List Nat):Prop:=
 ConI P env f [1000,1001,1002] (fun k=>k==1002) (fun g=>[.loc 1000 (g 1000) 0 0, .agg (chAV c),I i]) (fun g=>TR ps ks ms bs lf g rk l) (fun g=>TR ps ks ms bs lf g (rankAll (walkL c i) l.length rk) (l++walkL c i)) (fun _=> .lit (.tuple #[]))
theorem ziR (env:Env) (c:ChD) (hc:Right c) (ps ks ms bs:List (List AV)) (lf:Value) (i:Int) (l rk:List Nat) (hi: -1<=i) (hrk:rk.length=c.states.length) (hfew:l.length+(walkL c i).length<=1000000)
 (ih: ∀k∈kidsL c i false,∀l rk,rk.length=c.states.length->l.length+(walkL c k).length<=1000000->znX prog env 120 c ps ks ms bs lf k l rk):znX prog env 120 c ps ks ms bs lf i l rk:=by
 unfold znX at*
 ·have hlen:=hc.few;have f0:=zgj env c i (by omega);rw [walk_eq hc hi] at hfew |-;have hK32:(kidsL c i false).length<=32:=Nat.le_trans (za4 c i false _) hlen;generalize hK:kidsL c i false=K at*;refine qi func120 call120 ntmps120 results120 ?_;intro vs esc hesc;have e0:=hesc 1000 (by simp);have e1:=hesc 1001 (by simp);have e2:=hesc 1002 (by simp);have F:=ai5 TR.eq_1 e0 e1 e2 chAV.eq_1;repeat (first | refine st ?_ | refine cC f0 ?_)
  refine zab (D:=Nat) (fun j vs'=>[(0, .loc 1000 (vs' 1000) 0 0),(4, .loc 4 (vs' 4) 0 0),(10, .row 10 (vs' 10)),(11,I K.length),(12,I j)]) (fun j vs'=>TR ps ks ms bs lf vs' (rankAll (wkTo c K j) l.length rk) (l++wkTo c K j)++[(4,⟨5,[chAV c],26,false⟩),(10,⟨1,K.map zae,3,true⟩)]) (fun j vs' esc'=>(j<=K.length/\vs' 1000=vs 1000/\vs' 1001=vs 1001)/\esc' 1000=false/\esc' 1001=false/\esc' 1002=false) (fun j=>K.length-j) 0 ?_ ?_ ?_ ?_
  ·exact⟨⟨Nat.zero_le _,by simp only [go_sem],by simp only [go_sem]⟩,by simp only [go_sem,e0],by simp only [go_sem,e1],by simp only [go_sem,e2]⟩
  ·exact qe
  ·have F:=ai TR.eq_1 chAV.eq_1
   (simp only [go_sem,F])
   refine⟨rfl, ?_⟩;show _=(⟨1,List.map zae (l++[]),3,true⟩:Row);rw [List.append_nil]
  try clear e0 e1 e2
  rintro j ws esc' ⟨⟨hj,v0,v1⟩,e0,e1,e2⟩;by_cases hlt:j<K.length
  ·obtain⟨k,hk⟩: ∃k,K[j]? =some k:=⟨K[j],List.getElem?_eq_getElem hlt⟩;have hkm:k∈kidsL c i false:=by rw [hK]; exact List.mem_of_getElem? hk
   have hg:=zaG hc hkm;have hnext:=zn8 (c:=c) hk;have hle:=zsx (c:=c) K (j+1);have hrl:=zgc (wkTo c K j) l.length rk;have hra:=zgd (wkTo c K j) (k::walkL c k) l.length rk;rw [hnext] at hle;rw [List.length_append,List.length_cons] at hle;generalize rankAll (wkTo c K j) l.length rk=rk1 at*;have f1:=ih k (List.mem_of_getElem? hk) (l++wkTo c K j++[k]) (rk1.set k (l++wkTo c K j).length) (by rw [List.length_set,hrl,hrk]) (by simp only [List.length_append,List.length_cons,List.length_nil]; omega);have k1:=nlt hlt;have k2:=zaa hlt (by omega);have k3:((k:Nat):Int)< (rk1.length:Int):=by rw [hrl,hrk]; omega
   obtain⟨r0,hr0⟩: ∃r0,rk1[k]? =some r0:=⟨rk1[k]'(by omega),List.getElem?_eq_getElem _⟩;have hf:Fits (l.length+(wkTo c K j).length+1) 8:=⟨by omega,by omega⟩;have F:=ai14 TR.eq_1 e0 e1 e2 chAV.eq_1 k1 k2 k3 hk hf zae.eq_1 @List.map_append.{0,0} hr0 @List.map_set.{0,0};have hra2:rankAll (wkTo c K (j+1)) l.length rk=rankAll (walkL c k) (l.length+(wkTo c K j).length+1) (rk1.set k (l.length+(wkTo c K j).length)):=by rw [hnext,hra]; rfl
   repeat refine st ?_
   refine iL [(1000,1000),(1001,1001),(1002,1002)] f1 ?_;repeat refine st ?_
   refine⟨j+1,⟨⟨hlt, ?_, ?_⟩, ?_, ?_, ?_⟩, ?_, ?_,by omega⟩
   ·simp only [go_sem];exact v0
   ·simp only [go_sem];exact v1
   ·simp only [go_sem,e0]
   ·simp only [go_sem,e1]
   ·simp only [go_sem,e2]
   ·exact qe
   ·have F:=ai8 TR.eq_1 chAV.eq_1 zae.eq_1 @List.map_append.{0,0} @List.map_set.{0,0} hra2 hnext @List.append_assoc.{0}
    (simp only [go_sem,F])
    rw [hra];rfl
  ·obtain rfl:j=K.length:=by omega
   have k1: ¬(K.length:Int)< (K.length:Int):=by omega
   have hall:=zqM (c:=c) K;have F:=ai9 TR.eq_1 e0 e1 e2 chAV.eq_1 k1 hall v0 v1;repeat refine st ?_
   exact rN
theorem zlK (env:Env) (c:ChD) (hc:Right c) (ps ks ms bs:List (List AV)) (lf:Value): ∀(n:Nat) (i:Int) (l rk:List Nat), -1<=i->(c.states.length:Int)<=i+n->rk.length=c.states.length->l.length+(walkL c i).length<=1000000->znX prog env 120 c ps ks ms bs lf i l rk
 | 0,i,l,rk,hi,hn,hrk,hfew=>ziR env c hc ps ks ms bs lf i l rk hi hrk hfew fun k hk=>by have:=zaG hc hk; omega
 | n+1,i,l,rk,hi,hn,hrk,hfew=>ziR env c hc ps ks ms bs lf i l rk hi hrk hfew fun k hk l rk h1 h2=>by have:=zaG hc hk; exact zlK env c hc ps ks ms bs lf n k l rk (by omega) (by omega) h1 h2
end
section
open Go.RowKit
def umAV (m:Nat):List AV:=[.lit (.int .u32 m)]
def mkTo (c:ChD) (i:Nat):List Nat:=(List.range c.states.length).map fun j=>if j<i then mask c j else 0
def zpj (c:ChD) (i:Nat) (s:StD):Bool:=s.kind != 4&&s.kind != 5&&(((kidsL c i true).length:Int)==0)
def zby (c:ChD):Nat->Nat
 | 0=>0
 | i+1=>match c.states[i]? with
   | some s=>if zpj c i s then zby c i||| 2^i else zby c i
   | none=>zby c i
theorem zjo (c:ChD):(mkTo c 0).map umAV=List.replicate c.states.length [.lit (.int .u32 0)]:=by
 unfold mkTo;rw [List.map_map]
 have: ∀n:Nat,(List.range n).map (umAV ∘ fun(j:Nat)=>if j<0 then mask c j else 0)=List.replicate n [.lit (.int .u32 0)]:=fun n=>by
  rw [List.eq_replicate_iff];refine⟨by simp,fun b hb=> ?_⟩;obtain⟨j,_,rfl⟩:=List.mem_map.1 hb;rfl
 exact this _
theorem zea {c:ChD} {i j:Nat} (hj:j<c.states.length):(mkTo c i)[j]? =some (if j<i then mask c j else 0):=by
 unfold mkTo;rw [List.getElem?_map,List.getElem?_range hj];rfl
theorem zbE (c:ChD) (i:Nat):(mkTo c i).length=c.states.length:=by simp [mkTo]
theorem zl5 {c:ChD} {i:Nat} (hi:i<c.states.length):(mkTo c i).set i (mask c i)=mkTo c (i+1):=by
 apply List.ext_getElem?;intro k;by_cases hk:k<c.states.length
 ·rw [zea hk,List.getElem?_set,zbE];by_cases e:i=k
  ·subst e; simp [hi]
  ·rw [if_neg e,zea hk];by_cases e2:k<i
   ·rw [if_pos e2,if_pos (by omega)]
   ·rw [if_neg e2,if_neg (by omega)]
 ·rw [List.getElem?_eq_none (by rw [List.length_set,zbE]; omega),List.getElem?_eq_none (by rw [zbE]; omega)]
theorem zo6 {c:ChD} {i:Nat} (hi:i<c.states.length) (h0:mask c i=0):mkTo c i=mkTo c (i+1):=by
 rw [<-zl5 hi,h0];apply List.ext_getElem?;intro k;rw [List.getElem?_set,zbE];by_cases e:i=k
 ·subst e;rw [zea hi];simp [hi]
 ·rw [if_neg e]
theorem zl2 {a b:Nat} (ha:a<4294967296) (hb:b<4294967296):bitV .or .u32 (a:Int) (b:Int)=((a||| b:Nat):Int):=by
 have hx:a||| b<2^32:=Nat.or_lt_two_pow (by omega) (by omega);show IntKind.u32.wrap ((BitVec.ofInt 32 (a:Int)||| BitVec.ofInt 32 (b:Int)).toNat:Int)=_;rw [BitVec.toNat_or,ofInt_u32 a ha,ofInt_u32 b hb,IntKind.wrap_u32];omega
theorem zh3 {p:Nat} (hp:p<32):IntKind.u32.wrap (1*2^min p 32)=((2^p:Nat):Int):=by
 have h:=zdo p hp;have key: ∀q:Nat,q<4294967296->(q:Int)%4294967296=q:=fun q h=>by omega
 rw [show min p 32=p by omega,IntKind.wrap_u32,Int.one_mul,show ((2:Int)^p)=((2^p:Nat):Int) by rw [Int.natCast_pow]; rfl];exact key _ h
theorem zfi {c:ChD} : ∀ {i:Nat},i<=32->zby c i<4294967296
 | 0,_=>by show 0<4294967296; decide
 | i+1,h=>by
   have ih:=zfi (c:=c) (i:=i) (by omega);have h2:=zdo i (by omega);unfold zby;split
   ·split
    ·exact Nat.or_lt_two_pow (n:=32) ih h2
    ·exact ih
   ·exact ih
/-! What is beneath -/
def bitL (m:Nat):List Nat:=(List.range 32).filter fun(b:Nat)=>m/2^b%2==1
theorem zhg (m:Nat):setOf m=(bitL m).map fun(b:Nat)=>(b:Int):=rfl
theorem zqp (m b:Nat):(m/2^b%2==1)=m.testBit b:=by
 rw [Nat.testBit_eq_decide_div_mod_eq];rfl
theorem ziH {m b:Nat} :b∈bitL m↔b<32/\m.testBit b=true:=by
 unfold bitL;rw [List.mem_filter,List.mem_range,zqp]
theorem znP (m:Nat):(bitL m).Nodup:=List.Nodup.sublist List.filter_sublist List.nodup_range
def benN (c:ChD):Nat->Nat->Nat
 | 0,_=>0
 | i+1,j=>if (mask c i).testBit j then benN c i j||| 2^i else benN c i j
theorem zhK {c:ChD} : ∀ {i:Nat} (j:Nat),i<=32->benN c i j<4294967296
 | 0,_,_=>by show 0<4294967296; decide
 | i+1,j,h=>by
   have ih:=zhK (c:=c) (i:=i) j (by omega);have h2:=zdo i (by omega);unfold benN;split
   ·exact Nat.or_lt_two_pow (n:=32) ih h2
   ·exact ih
def bnTo (c:ChD) (i:Nat):List Nat:=(List.range c.states.length).map (benN c i)
def zfz (c:ChD) (i m:Nat):List Nat:=(List.range c.states.length).map fun(j:Nat)=>if j∈(bitL (mask c i)).take m then benN c i j||| 2^i else benN c i j
theorem zeN (c:ChD) (i m:Nat):(zfz c i m).length=c.states.length:=by simp [zfz]
theorem znO (c:ChD) (i:Nat):zfz c i 0=bnTo c i:=by
 unfold zfz bnTo;apply List.map_congr_left;intro j _;simp
theorem zqo {c:ChD} (h:c.states.length<=32) (i:Nat):zfz c i (bitL (mask c i)).length=bnTo c (i+1):=by
 unfold zfz bnTo;apply List.map_congr_left;intro j hj;have hj:=List.mem_range.1 hj;rw [List.take_length];show _=if (mask c i).testBit j then benN c i j||| 2^i else benN c i j
 by_cases hb:(mask c i).testBit j=true
 ·rw [if_pos (ziH.2 ⟨by omega,hb⟩),if_pos hb]
 ·rw [if_neg (fun hm=>hb (ziH.1 hm).2),if_neg hb]
theorem zrY {c:ChD} {i m k:Nat} (hk:(bitL (mask c i))[m]? =some k) (hn:k<c.states.length):(zfz c i m)[k]? =some (benN c i k):=by
 unfold zfz;rw [List.getElem?_map,List.getElem?_range hn];simp only [Option.map_some,Option.some.injEq];rw [if_neg];intro hm;obtain⟨q,hq⟩:=List.mem_iff_getElem?.1 hm;rw [List.getElem?_take] at hq;split at hq
 ·rename_i hlt;obtain⟨h1,h2⟩:=List.getElem?_eq_some_iff.1 hk;obtain⟨h3,h4⟩:=List.getElem?_eq_some_iff.1 hq;exact(List.pairwise_iff_getElem.1 (znP (mask c i))) q m h3 h1 hlt (h4.trans h2.symm)
 ·cases hq
theorem zqn {c:ChD} {i m k:Nat} (hk:(bitL (mask c i))[m]? =some k) (hn:k<c.states.length):(zfz c i m).set k (benN c i k||| 2^i)=zfz c i (m+1):=by
 apply List.ext_getElem?;intro j;rw [List.getElem?_set,zeN];by_cases hj:j<c.states.length
 ·unfold zfz;rw [List.getElem?_map,List.getElem?_range hj,List.getElem?_map,List.getElem?_range hj,List.take_add_one,hk];simp only [Option.map_some,Option.toList_some,List.mem_append,List.mem_singleton];by_cases e:k=j
  ·subst e;simp [hn]
  ·rw [if_neg e];simp [Ne.symm e]
 ·rw [List.getElem?_eq_none (by rw [zeN]; omega),List.getElem?_eq_none (by rw [zeN]; omega)];by_cases e:k=j
  ·omega
  ·rw [if_neg e]
theorem zqm (c:ChD):(bnTo c 0).map umAV=List.replicate c.states.length [.lit (.int .u32 0)]:=by
 rw [<-zjo];unfold bnTo mkTo
 congr 1
theorem znQ {c:ChD} (h:Right c) {i m k:Nat} (hk:(bitL (mask c i))[m]? =some k):k<i:=by
 have:=(ziH.1 (List.mem_of_getElem? hk)).2;rw [zig h,decide_eq_true_eq] at this;have:=zhV h 40 _ _ this;omega
theorem zhR {c:ChD} (h:Right c):(walkL c (-1)).length<=c.states.length:=by
 have:=(zdG h 40 (-1) (by omega) (by have:=h.few; omega)).length_le_of_subset (l₂:=List.range c.states.length) fun m hm=>List.mem_range.2 ((zej h m).1 hm);simpa using this
def zlX (c:ChD):List Nat:=rankAll (walkL c (-1)) 0 (List.replicate c.states.length 0)
def zan (c:ChD):AV:= .ref 7 [[.seq 1 (c.states.map fun s=>[I s.parent]), .seq 1 (c.states.map fun s=>[I s.kind]), .seq 1 ((mkTo c c.states.length).map umAV), .seq 1 ((bnTo c c.states.length).map umAV), .seq 1 ((zlX c).map zae), .seq 1 ((walkL c (-1)).map zae), .lit (.int .u32 (zby c c.states.length))]] 0 0
end
section
open Go.RowKit
theorem zqR (env:Env) (a1 a8:Addr) (he:ChEnv env a1 a8) (hT: ∀W,env.inv W->TabAt W) (c:ChD) (hc:Right c) (hch:ziF a1 a8 c= .lit .nilIface) (hcf:zdZ c):Con prog env 63 [.agg (chAV c)] (.tuple [zan c, .lit .nilIface]):=by
 have hlen:=hc.few;have f0:=zni env a1 a8 he c hcf;rw [hch] at f0;refine zkf func63 rfl call63 (by rw [ntmps63]; simp) ?_;rw [ntmps63,results63];have F:=chAV.eq_1;refine za1 ?_;repeat (first | refine st ?_ | refine cC f0 ?_)
 refine za1 ?_;repeat (first | refine st ?_ | refine cC f0 ?_)
 refine za1 ?_;repeat (first | refine st ?_ | refine cC f0 ?_)
 have m0: ¬(c.states.length:Int)<0:=by omega
 have m1: ¬(16777216:Int)< (c.states.length:Int):=by omega
 have m2: ¬(281474976710656:Int)<4*(c.states.length:Int):=by omega
 have m3: ¬(281474976710656:Int)<8*(c.states.length:Int):=by omega
 have F:=ai5 chAV.eq_1 m0 m1 m2 m3;refine za1 ?_;repeat (first | refine st ?_ | refine cC f0 ?_)
 refine za1 ?_;repeat (first | refine st ?_ | refine cC f0 ?_)
 refine nC 28 9000 0 0 3 1 ?_;refine nC 28 9001 0 1 3 1 ?_
 refine zab (D:=Nat) (fun i vs'=>[(1, .loc 1 (vs' 1) 0 0),(6, .loc 6 (vs' 6) 0 0),(30,stsAV c.states),(31,I c.states.length),(32,I i)])
  (fun i vs'=>[(1,⟨5,[chAV c],26,false⟩),(6,⟨1,[[.loc 28 (vs' 28) 0 0]],115,false⟩),(28,⟨7,[[.row 9000 (vs' 9000), .row 9001 (vs' 9001), .row 22 (vs' 22), .row 24 (vs' 24), .row 26 (vs' 26),nilS, .lit (.int .u32 (zby c i))]],173,false⟩),
   (22,⟨1,(mkTo c i).map umAV,171,true⟩),(24,⟨1,List.replicate c.states.length [.lit (.int .u32 0)],171,true⟩),(26,⟨1,List.replicate c.states.length [I 0],3,true⟩),
   (9000,⟨1,(c.states.take i).map fun s=>[I s.parent],3,true⟩),(9001,⟨1,(c.states.take i).map fun s=>[I s.kind],3,true⟩)])
  (fun i vs' esc'=>i<=c.states.length/\esc' 22=false/\esc' 24=false/\esc' 26=false/\esc' 28=false/\esc' 9000=false/\esc' 9001=false) (fun i=>c.states.length-i) 0 ?_ ?_ ?_ ?_
 ·refine⟨Nat.zero_le _, ?_, ?_, ?_, ?_, ?_, ?_⟩<;>simp only [go_sem]
 ·exact qe
 ·have F:=ai chAV.eq_1 zby.eq_1
  (simp only [go_sem,F])
  rw [zjo]
 rintro i ws esc ⟨hi,e0,e1,e2,e3,e4,e5⟩;by_cases hlt:i<c.states.length
 ·obtain⟨s,hs,_⟩:=zal hlt;have g1:=nlt hlt;have g2:=zaa hlt (by omega);have f1:=zcQ env c i (by omega);have hpar:=hc.par i s hs;have hf:Fits (i+1) 8:=⟨by omega,by omega⟩;have hti:(c.states.take i).length=i:=by rw [List.length_take]; omega
  have htk:c.states.take (i+1)=c.states.take i++[s]:=by rw [List.take_add_one,hs]; rfl
  have hmi:=zea (c:=c) (i:=i) hlt;rw [if_neg (Nat.lt_irrefl i)] at hmi
  have hl:zby c (i+1)=if zpj c i s then zby c i||| 2^i else zby c i:=by
   show (match c.states[i]? with | some s=>if zpj c i s then zby c i||| 2^i else zby c i | none=>zby c i)=_;rw [hs]
  have g6:=zl2 (a:=zby c i) (b:=2^i) (zfi (by omega)) (zdo i (by omega));have g7:=zh3 (p:=i) (by omega);by_cases hp:0<=s.parent
  ·obtain⟨p,hp⟩: ∃p:Nat,s.parent=p:=⟨s.parent.toNat,by omega⟩;have hmp:=zea (c:=c) (i:=i) (j:=p) (by omega);rw [if_pos (by omega)] at hmp;have g3:((p:Nat):Int)< (c.states.length:Int):=by omega
   have g4:=zh3 (p:=p) (by omega)
   have hnx:mask c i=mask c p||| 2^p:=by
    have:=zjr hc (zay.2 hlt);rw [zd9 hs,hp] at this;rw [this,if_pos (by omega),Int.toNat_natCast]
   have g5:=zl2 (a:=mask c p) (b:=2^p) (zeV hc (by omega)) (zdo p (by omega));rw [<-hnx] at g5;have hms:=zl5 (c:=c) hlt;cases q4:(s.kind != 4)<;>cases q5:(s.kind != 5)<;>cases q0:(((kidsL c i true).length:Int)==0);all_goals have F:=ai26 chAV.eq_1 stAV.eq_1 g1 g2 g6 g7 hs hp hf hti hmi @zbE umAV.eq_1 q4 q5 q0 e0 e1 e2 e3 e4 e5 g3 g4 g5 hmp
   all_goals (repeat (first | refine st ?_ | refine cC f1 ?_))
   all_goals (refine⟨i+1,⟨hlt, ?_, ?_, ?_, ?_, ?_, ?_⟩, ?_, ?_,by omega⟩)
   all_goals (first | (show _=false; simp only [go_sem,e0,e1,e2,e3,e4,e5]; done) | skip)
   all_goals have F:=ai31 chAV.eq_1 stAV.eq_1 g1 g2 g6 g7 hs hp hf hti hmi @zbE umAV.eq_1 q4 q5 q0 e0 e1 e2 e3 e4 e5 g3 g4 g5 hmp hl zpj.eq_1 htk @List.map_append.{0,0} @List.map_set.{0,0}
   all_goals ((simp only [go_sem, <-hms,F]))
  ·have hp:s.parent= -1:=by omega
   have hm0:mask c i=0:=by
    have:=zjr hc (zay.2 hlt);rw [zd9 hs,hp] at this;rw [this,if_neg (by omega)]
   have hms:=zo6 hlt hm0;cases q4:(s.kind != 4)<;>cases q5:(s.kind != 5)<;>cases q0:(((kidsL c i true).length:Int)==0);all_goals have F:=ai22 chAV.eq_1 stAV.eq_1 g1 g2 g6 g7 hs hp hf hti hmi @zbE umAV.eq_1 q4 q5 q0 e0 e1 e2 e3 e4 e5
   all_goals (repeat (first | refine st ?_ | refine cC f1 ?_))
   all_goals (refine⟨i+1,⟨hlt, ?_, ?_, ?_, ?_, ?_, ?_⟩, ?_, ?_,by omega⟩)
   all_goals (first | (show _=false; simp only [go_sem,e0,e1,e2,e3,e4,e5]; done) | skip)
   all_goals have F:=ai27 chAV.eq_1 stAV.eq_1 g1 g2 g6 g7 hs hp hf hti hmi @zbE umAV.eq_1 q4 q5 q0 e0 e1 e2 e3 e4 e5 hl zpj.eq_1 htk @List.map_append.{0,0} hms
   all_goals ((simp only [go_sem,F]))
 obtain rfl:i=c.states.length:=by omega
 have g1: ¬(c.states.length:Int)< (c.states.length:Int):=by omega
 have hta:c.states.take c.states.length=c.states:=List.take_length;have F:=ai9 chAV.eq_1 g1 e0 e1 e2 e3 e4 e5 hta;repeat (first | refine st ?_ | refine cC f0 ?_)
 refine ziK ?_;refine za1 ?_;repeat (first | refine st ?_ | refine cC f0 ?_)
 refine ze7 ?_
 refine zqv (D:=Nat) (fun i vs'=>[(1, .loc 1 (vs' 1) 0 0),(6, .loc 6 (vs' 6) 0 0),(108, .row 22 (vs' 22)),(109,I c.states.length),(110,I i)])
  (fun i vs'=>[(1,⟨5,[chAV c],26,false⟩),(6,⟨1,[[.loc 28 (vs' 28) 0 0]],115,false⟩),(28,⟨7,[[.row 9000 (vs' 9000), .row 9001 (vs' 9001), .row 22 (vs' 22), .row 24 (vs' 24), .row 26 (vs' 26),nilS, .lit (.int .u32 (zby c c.states.length))]],173,false⟩),
   (22,⟨1,(mkTo c c.states.length).map umAV,171,true⟩),(24,⟨1,(bnTo c i).map umAV,171,true⟩),(26,⟨1,List.replicate c.states.length [I 0],3,true⟩),
   (9000,⟨1,c.states.map fun s=>[I s.parent],3,true⟩),(9001,⟨1,c.states.map fun s=>[I s.kind],3,true⟩)])
  (fun i vs' esc'=>i<=c.states.length/\esc' 22=false/\esc' 24=false/\esc' 26=false/\esc' 28=false/\esc' 9000=false/\esc' 9001=false) (fun i=>c.states.length-i) 0 ?_ ?_ ?_ ?_
 ·refine⟨Nat.zero_le _, ?_, ?_, ?_, ?_, ?_, ?_⟩<;>simp only [go_sem,e0,e1,e2,e3,e4,e5]
 ·have F:=@zbE;exact qe
 ·have F:=ai chAV.eq_1 hta
  (simp only [go_sem,F])
  rw [zqm]
 try clear e0 e1 e2 e3 e4 e5
 rintro i ws esc ⟨hi,e0,e1,e2,e3,e4,e5⟩;by_cases hlt:i<c.states.length
 ·have g1:=nlt hlt;have g2:=zaa hlt (by omega);have hm:=zea (c:=c) (i:=c.states.length) hlt;rw [if_pos hlt] at hm;have F:=ai12 chAV.eq_1 g1 g2 hm @zbE umAV.eq_1 e0 e1 e2 e3 e4 e5;refine za1 ?_;repeat (first | refine st ?_ | refine cC f0 ?_)
  refine za1 ?_;repeat (first | refine st ?_ | refine cC f0 ?_)
  refine ziK ?_;refine ze7 ?_;refine za1 ?_;repeat (first | refine st ?_ | refine cC f0 ?_)
  refine za1 ?_;repeat (first | refine st ?_ | refine cC f0 ?_)
  refine ze7 ?_
  refine znV (D:=Unit) (f:=119) (first:= #[.int .u32 (mask c i)]) (ks:=(setOf (mask c i)).map (Value.int .i64))
   (fun m _ vs'=>[(1,⟨5,[chAV c],26,false⟩),(6,⟨1,[[.loc 28 (vs' 28) 0 0]],115,false⟩),(9,⟨1,[[I i]],3,false⟩),(28,⟨7,[[.row 9000 (vs' 9000), .row 9001 (vs' 9001), .row 22 (vs' 22), .row 24 (vs' 24), .row 26 (vs' 26),nilS, .lit (.int .u32 (zby c c.states.length))]],173,false⟩),
    (22,⟨1,(mkTo c c.states.length).map umAV,171,true⟩),(24,⟨1,(zfz c i m).map umAV,171,true⟩),(26,⟨1,List.replicate c.states.length [I 0],3,true⟩),
    (9000,⟨1,c.states.map fun s=>[I s.parent],3,true⟩),(9001,⟨1,c.states.map fun s=>[I s.kind],3,true⟩)])
   (fun m _ vs' esc'=>(vs' 1=ws 1/\vs' 6=ws 6/\vs' 22=ws 22/\vs' 9=ws 9+1)/\esc' 22=false/\esc' 24=false/\esc' 26=false/\esc' 28=false/\esc' 9000=false/\esc' 9001=false) ()
   (by simp only [go_sem,hm,umAV]) (by decide) ((znH (mask c i) (zeV hc (by omega))).mono hT) ?_ ?_ ?_ ?_
  ·refine⟨⟨?_, ?_, ?_, ?_⟩, ?_, ?_, ?_, ?_, ?_, ?_⟩<;>simp only [go_sem,e0,e1,e2,e3,e4,e5]
  ·(simp only [go_sem,F])
   rw [znO]
  ·rintro m _ v vs' esc' -⟨⟨q1,q2,q3,q4⟩,e0,e1,e2,e3,e4,e5⟩ hk
   obtain⟨k,hkL,rfl⟩: ∃k,(bitL (mask c i))[m]? =some k/\v= .int .i64 (k:Nat):=by
    rw [zhg,List.map_map,List.getElem?_map] at hk;obtain⟨k,h1,h2⟩:=Option.map_eq_some_iff.1 hk;exact⟨k,h1,h2.symm⟩
   have hki:=znQ hc hkL;have g3:((k:Nat):Int)< (c.states.length:Int):=by omega
   have hb:=zrY hkL (by omega);have hs:=zqn hkL (by omega);have g4:=zh3 (p:=i) (by omega);have g5:=zl2 (a:=benN c i k) (b:=2^i) (zhK k (by omega)) (zdo i (by omega));have F:=ai17 chAV.eq_1 q1 q2 q3 q4 g3 g4 g5 hb @zeN umAV.eq_1 e0 e1 e2 e3 e4 e5;repeat refine st ?_
   refine⟨(),⟨⟨?_, ?_, ?_, ?_⟩, ?_, ?_, ?_, ?_, ?_, ?_⟩, ?_⟩;all_goals (first | (simp only [go_sem,q1,q2,q3,q4,e0,e1,e2,e3,e4,e5]; done) | skip)
   have F:=ai7 chAV.eq_1 q1 q2 q3 q4 @List.map_set.{0,0} umAV.eq_1
   (simp only [go_sem, <-hs,F])
  ·rintro _ vs' esc' -⟨⟨q1,q2,q3,q4⟩,e0,e1,e2,e3,e4,e5⟩;have hks:(setOf (mask c i)).length=(bitL (mask c i)).length:=by rw [zhg,List.length_map]
   have hall:=zqo (c:=c) hlen i;refine zlC ?_;have F:=ai7 chAV.eq_1 q1 q2 q3 q4 g1 g2;repeat refine st ?_
   refine⟨i+1,⟨hlt, ?_, ?_, ?_, ?_, ?_, ?_⟩, ?_, ?_,by omega⟩;all_goals (first | (show _=false; simp only [go_sem,e0,e1,e2,e3,e4,e5]; done) | skip)
   ·have F:=ai5 chAV.eq_1 q1 q2 q3 q4;exact qe
   ·have F:=ai7 chAV.eq_1 q1 q2 q3 q4 hks hall;exact qe
 ·obtain rfl:i=c.states.length:=by omega
  have g1: ¬(c.states.length:Int)< (c.states.length:Int):=by omega
  have F:=ai8 chAV.eq_1 g1 e0 e1 e2 e3 e4 e5;refine za1 ?_;repeat refine st ?_
  refine za1 ?_;repeat refine st ?_
  refine zlC ?_;refine nC 28 9002 0 5 3 1 ?_;refine zcw [(9000,⟨1,c.states.map fun s=>[I s.parent],3,true⟩),(9001,⟨1,c.states.map fun s=>[I s.kind],3,true⟩),(22,⟨1,(mkTo c c.states.length).map umAV,171,true⟩),(24,⟨1,(bnTo c c.states.length).map umAV,171,true⟩)] ?_ ?_
  ·exact qe
  refine zfP [(1, .loc 1 (ws 1) 0 0),(6, .loc 6 (ws 6) 0 0)] [(1,⟨5,[chAV c],26,false⟩),(6,⟨1,[[.loc 28 (ws 28) 0 0]],115,false⟩),(28,⟨7,[[.seq 1 (c.states.map fun s=>[I s.parent]), .seq 1 (c.states.map fun s=>[I s.kind]), .seq 1 ((mkTo c c.states.length).map umAV), .seq 1 ((bnTo c c.states.length).map umAV), .row 26 (ws 26), .row 9002 (ws 9002+1), .lit (.int .u32 (zby c c.states.length))]],173,false⟩),
   (26,⟨1,List.replicate c.states.length [I 0],3,true⟩),(9002,⟨1,[],3,true⟩)] ?_ ?_ ?_
  ·exact qe0
  ·have F:=chAV.eq_1;exact qe
  have hwl:=zhR hc
  have f1:znX prog env 120 c (c.states.map fun s=>[I s.parent]) (c.states.map fun s=>[I s.kind]) ((mkTo c c.states.length).map umAV) ((bnTo c c.states.length).map umAV) (.int .u32 (zby c c.states.length)) (-1) [] (List.replicate c.states.length 0):=
   zlK env c hc _ _ _ _ _ 40 (-1) [] (List.replicate c.states.length 0) (by omega) (by omega) (by simp) (by simp; omega)
  unfold znX at f1;have F:=ai10 chAV.eq_1 TR.eq_1 zae.eq_1 @List.map_replicate.{0,0} e0 e1 e2 e3 e4 e5;repeat refine st ?_
  refine iL [(1000,28),(1001,26),(1002,9002)] f1 ?_;repeat refine st ?_
  refine zcw [(26,⟨1,(zlX c).map zae,3,true⟩),(9002,⟨1,(walkL c (-1)).map zae,3,true⟩)] ?_ ?_
  ·have F:=zlX.eq_1;exact qe
  refine zfP [(2, .loc 28 (ws 28) 0 0),(3, .lit .nilIface)] [(28,⟨7,[[.seq 1 (c.states.map fun s=>[I s.parent]), .seq 1 (c.states.map fun s=>[I s.kind]), .seq 1 ((mkTo c c.states.length).map umAV), .seq 1 ((bnTo c c.states.length).map umAV), .seq 1 ((zlX c).map zae), .seq 1 ((walkL c (-1)).map zae), .lit (.int .u32 (zby c c.states.length))]],173,false⟩)] ?_ ?_ ?_
  ·exact qe0
  ·have F:=chAV.eq_1;exact qe
  (refine zak ?_; refine⟨_,(by show (zaz _ _ _).run _=some _; simp only [go_sem]; rfl), ?_⟩)
  exact RStr.refl _
end

end Go.Proofs.YtbpmkofnfgdegaaGreatDoor