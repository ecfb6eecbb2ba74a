/- The document's words on tables: At, Begin, Memories. -/
import Derived.Test.YtbpmkofnfgdegaaGreatDoorQ12
import Derived.Test.YtbpmkofnfgdegaaGreatDoorQ5
import Derived.Test.YtbpmkofnfgdegaaGreatDoorQ6
import Derived.Test.YtbpmkofnfgdegaaGreatDoorQ15
import Derived.Test.YtbpmkofnfgdegaaGreatDoorQ8
import Derived.Test.YtbpmkofnfgdegaaGreatDoorQ11
import Derived.Test.YtbpmkofnfgdegaaGreatDoorQ4
set_option maxRecDepth 100000
set_option maxHeartbeats 16000000
set_option linter.unusedSimpArgs false
namespace Go.Proofs.YtbpmkofnfgdegaaGreatDoor
open Go.Proofs.Tryz
open Go.RowKit
section
theorem zkU (env:Env) (c:ChD) (l:List OpD):Con prog env 168 [.agg (chAV c),opsAV l] (B (zbQ l c.vars.length c.states.length)):=by
 have hx:=zii env l c.vars.length c.states.length;unfold zbQ;refine qf func168 call168 ntmps168 results168 ?_;have F:=chAV.eq_1;repeat refine tz1 hx ?_
 exact aR
theorem zrD {m:List UInt8} (h:zbi m=true):(m == [])=false:=by
 cases m with
 |nil=>cases h
 |cons a l=>rfl
theorem ztZ (env:Env) (c:ChD) (a:ActD):Con prog env 204 [.agg (chAV c), .agg (zbl a)] (B (actB c.vars.length c.states.length a)):=by
 obtain⟨k,n,m,co⟩:=a;have hcode:=zkU env c co;have hname:=zcB env m;have hnm:zbi m=true->(m == [])=false:=zrD;have hco:((co.length:Int)==0)=(co == []):=zcM co;have w1: ∀p q:Prop,[Decidable p]->[Decidable q]->decide (p/\q)=(decide p&&decide q):=fun p q=>Bool.decide_and p q;refine qf func204 call204 ntmps204 results204 ?_;by_cases hk:1<=k/\k<=5
 ·have hk:k=1\/k=2\/k=3\/k=4\/k=5:=by omega
  rcases hk with rfl|rfl|rfl|rfl|rfl
  all_goals
   have F:=ai9 chAV.eq_1 zbl.eq_1 actB.eq_1 hnm hco w1 bneA @Bool.true_beq @Bool.false_beq;exact gz2 hcode hname
 rw[show actB c.vars.length c.states.length ⟨k,n,m,co⟩=false by unfold actB;rw[if_neg (by simp only;omega),if_neg (by simp only;omega),if_neg (by simp only;omega),if_neg (by simp only;omega)]];have b2:(k==2)=false:=zb1 (by omega);have b4:(k==4)=false:=zb1 (by omega);have b5:(k==5)=false:=zb1 (by omega);by_cases h1:k<1
 ·have F:=ai9 chAV.eq_1 zbl.eq_1 h1 b2 b4 b5 bneA @Bool.true_beq @Bool.false_beq;exact gz2 hcode hname
 have h2:5<k:=by omega
 have F:=ai10 chAV.eq_1 zbl.eq_1 h1 h2 b2 b4 b5 bneA @Bool.true_beq @Bool.false_beq;exact gz2 hcode hname
theorem zhj (env:Env) (c:ChD) (l:List ActD):Con prog env 165 [.agg (chAV c),actsAV l] (B (zcZ c.vars.length c.states.length l)):=by
 refine qf func165 call165 ntmps165 results165 ?_;by_cases hlen:32<l.length
 ·have k0:(32:Int)< (l.length:Int):=by omega
  rw[show zcZ c.vars.length c.states.length l=false by unfold zcZ;rw[decide_eq_false (by omega)];rfl];have F:=ai chAV.eq_1 k0;repeat refine st ?_
  exact aR
 have k0: ¬(32:Int)< (l.length:Int):=by omega
 rw[show zcZ c.vars.length c.states.length l=l.all (actB c.vars.length c.states.length) by unfold zcZ;rw[decide_eq_true (by omega)];rfl];have F:=ai chAV.eq_1 k0;repeat refine st ?_
 refine zab (D:=Nat) (fun k vs=>[(1,actsAV l),(2, .loc 2 (vs 2) 0 0),(5,I k)]) (fun _ _=>[(2,⟨5,[chAV c],26,false⟩)]) (fun k _ _=>k<=l.length/\(l.take k).all (actB c.vars.length c.states.length)=true) (fun k=>l.length-k) 0 ?_ ?_ ?_ ?_
 ·exact⟨Nat.zero_le _,rfl⟩
 ·exact qe
 ·exact qe
 rintro k ws esc ⟨hk,hall⟩;by_cases hlt:k<l.length
 ·obtain⟨a,hx,hm⟩:=zak hlt;have k1:=nlt hlt;have k2:=zaa hlt (by omega);have hact:=ztZ env c a;cases h1:actB c.vars.length c.states.length a with
  | true=>
    have F:=ai6 chAV.eq_1 k1 k2 hx zbl.eq_1 h1;repeat refine tz1 hact ?_
    refine⟨k+1,⟨hlt,zbX hall hx h1⟩,?_,?_,?_⟩
    ·exact qe
    ·exact qe
    ·omega
  | false=>
    rw[zf7 hx h1];have F:=ai6 chAV.eq_1 k1 k2 hx zbl.eq_1 h1;repeat refine tz1 hact ?_
    exact aR
 ·have k1: ¬(k:Int)< (l.length:Int):=by omega
  rw[zkl hall (by omega)];have F:=ai chAV.eq_1 k1;repeat refine st ?_
  exact aR
theorem ziz (env:Env) (c:ChD) (s:StD) (hp:s.parent<c.states.length):Con prog env 167 [.agg (chAV c), .agg (stAV s)] (B (zbJ c s)):=by
 refine qf func167 call167 ntmps167 results167 ?_;by_cases h1:0<=s.parent
 ·obtain⟨m,hm⟩:=zdR h1;obtain⟨q,hq,_⟩:=zak (show m<c.states.length by omega);have k1:=nlt (show m<c.states.length by omega);rw[show zbJ c s=(q.kind==1) by unfold zbJ;rw[hm,zaM,hq]];have F:=ai5 chAV.eq_1 stAV.eq_1 hm hq k1;repeat refine st ?_
  exact aR
 ·rw[show zbJ c s=false by unfold zbJ at_;rw[if_neg h1]];have F:=ai3 chAV.eq_1 stAV.eq_1 h1;repeat refine st ?_
  exact aR
theorem zkT (env:Env) (c:ChD) (l:List Nat) (hl:l.length<=1000000) (hk: ∀k∈l,k<c.states.length):Con prog env 166 [.agg (chAV c),nsAV l] (B ((l.all fun k=>zav c k)&&decide (0<l.length))):=by
 refine qf func166 call166 ntmps166 results166 ?_;have F:=chAV.eq_1;repeat refine st ?_
 refine zab (D:=Nat) (fun k vs=>[(1,nsAV l),(2, .loc 2 (vs 2) 0 0),(5,I k)]) (fun _ _=>[(2,⟨5,[chAV c],26,false⟩)]) (fun k _ _=>k<=l.length/\(l.take k).all (fun k=>zav c k)=true) (fun k=>l.length-k) 0 ?_ ?_ ?_ ?_
 ·exact⟨Nat.zero_le _,rfl⟩
 ·exact qe
 ·exact qe
 rintro j ws esc ⟨hj,hall⟩;by_cases hlt:j<l.length
 ·obtain⟨k,hx,hm⟩:=zak hlt;obtain⟨q,hq,_⟩:=zak (hk k hm);have k1:=nlt hlt;have k2:=zaa hlt (by omega);have k3:=nlt (hk k hm);have hn:=zdB env q;have hnq:zav c (k:Int)=zcW q:=by unfold zav;rw[zaM,hq]
  cases h1:zcW q with
  | true=>
    have F:=ai9 chAV.eq_1 k1 k2 k3 hx hq zac.eq_1 stAV.eq_1 h1;repeat refine tz1 hn ?_
    refine⟨j+1,⟨hlt,zbX (p:=fun k:Nat=>zav c k) hall hx (hnq.trans h1)⟩,?_,?_,?_⟩
    ·exact qe
    ·exact qe
    ·omega
  | false=>
    rw[zf7 (p:=fun k:Nat=>zav c k) hx (hnq.trans h1),Bool.false_and];have F:=ai9 chAV.eq_1 k1 k2 k3 hx hq zac.eq_1 stAV.eq_1 h1;repeat refine tz1 hn ?_
    exact aR
 ·have k1: ¬(j:Int)< (l.length:Int):=by omega
  rw[zkl hall (by omega),Bool.true_and];have h3:decide ((0:Int)< (l.length:Int))=decide (0<l.length):=by rw[Bool.eq_iff_iff];simp
  have F:=ai chAV.eq_1 k1;repeat refine st ?_
  (refine zal ?_;show (zaG _ _ _).run _=some _;simp only[go_sem,F])
  exact congrArg B h3
theorem ztY (env:Env) (c:ChD) (hn:c.vars.length<=1000000) (i:Nat) (v:VarD) (hv:c.vars[i]? =some v):Con prog env 112 [.agg (chAV c),I i] (B (varB c i v)):=by
 have hi:i<c.vars.length:=(List.getElem?_eq_some_iff.1 hv).1;have k0:=nlt hi;have f1:=zcB env v.name;have f2:=zfh env v.start;refine qf func112 call112 ntmps112 results112 ?_;have F:=ai4 chAV.eq_1 k0 hv zdW.eq_1;repeat refine st ?_
 refine zab (D:=Nat) (fun j vs=>[(1,I i),(2, .loc 2 (vs 2) 0 0),(5, .loc 5 (vs 5) 0 0),(6,I j)]) (fun _ _=>[(2,⟨5,[chAV c],26,false⟩),(5,⟨2,[zdW v],110,false⟩)]) (fun j _ _=>j<=i/\newVar c v.name j=true) (fun j=>i-j) 0 ?_ ?_ ?_ ?_
 ·exact⟨Nat.zero_le _,rfl⟩
 ·exact qe
 ·exact qe
 rintro j ws esc ⟨hj,hall⟩;by_cases hlt:j<i
 ·obtain⟨x,hx,_⟩:=zak (show j<c.vars.length by omega);have hx':(c.vars.take i)[j]? =some x:=by rw[List.getElem?_take,if_pos hlt];exact hx
  have k1:=nlt hlt;have k3:=nlt (show j<c.vars.length by omega);have k2:=zaa hlt (by omega);cases e:(x.name==v.name)
  ·have F:=ai7 chAV.eq_1 k1 k2 k3 hx zdW.eq_1 e;repeat refine st ?_
   refine⟨j+1,⟨hlt,zhn hall hx e⟩,?_,?_,?_⟩
   ·exact qe
   ·exact qe
   ·omega
  ·rw[show varB c i v=false by unfold varB newVar;rw[zf7 (p:=fun x:VarD=> !(x.name==v.name)) hx' (by rw[e];rfl)];rfl];have F:=ai7 chAV.eq_1 k1 k2 k3 hx zdW.eq_1 e;repeat refine st ?_
   exact aR
 ·have k1: ¬(j:Int)< (i:Int):=by omega
  obtain rfl:j=i:=by omega
  have hr:varB c j v=(zbi v.name&& !(v.name == [100,97,116,97])&& !(v.name == [105,110])&&zai v.start):=by
   unfold varB zai;rw[hall];simp only[Bool.true_and,Bool.and_assoc]
  rw[hr];have F:=ai3 k1 zdW.eq_1 bneA;exact gz2 f1 f2
end
section
theorem zvM {α:Type} [DecidableEq α] (l:List α):(0< (l.length:Int))=((l == [])=false):=by
 rw[eq_iff_iff];cases l<;>simp
theorem zhy (c:ChD) (i:Int) (hn:c.states.length<=1000000):(kidsL c i true).length<=1000000:=Nat.le_trans (zbM c i true _) hn
theorem zmr (s:StD) (l:List Nat):(∀n:Int,(s.kind=n)=((s.kind==n)=true))/\(((s.kind==4)=true\/(s.kind==5)=true)=(zaq s=true))/\((l=[])=((l == [])=true)):=by
 refine⟨fun n=>by simp,by simp[zaq],by simp⟩
theorem zpm (env:Env) (c:ChD) (hn:c.states.length<=1000000) (i:Nat) (s:StD) (hs:c.states[i]? =some s):Con prog env 113 [.agg (chAV c),I i] (B (zbm c i s)):=by
 have hi:i<c.states.length:=(List.getElem?_eq_some_iff.1 hs).1;have k0:=nlt hi;have f1:=zcB env s.name;have f2:=zrh env c s.name hn;have f3:=zhj env c s.inn;have f4:=zhj env c s.out;have f5:=zcK env c (i:Int) true hn;have f6:=zcK env c (i:Int) false hn;have f7:=zby env s;have f8:=zrg env (kidsL c i true) s.initial (zhy c i hn);have f9:=zkT env c (kidsL c i true) (zhy c i hn) (fun k hk=>(zhx hk).1);have z1:=zcM (kidsL c i true);have z2:=zvM (kidsL c i false);have z3:=zcM s.out;have z4:=zcM s.inn;obtain⟨w1,w2,w3⟩:=zmr s (kidsL c i true);by_cases p0:s.parent<c.states.length/\0<=s.parent
 ·obtain⟨m,hm⟩:=zdR p0.2;obtain⟨q,hq,_⟩:=zak (show m<c.states.length by omega);have p1: ¬(m:Int)<0:=by omega
  have p4:(0:Int)<=m:=by omega
  have b0:((m:Int) == -1)=false:=zb1 (by omega);have p3:=nlt (show m<c.states.length by omega);have fn:=zdB env q;have hnq:zav c (m:Int)=zcW q:=by unfold zav;rw[zaM,hq]
  have fu:=ziz env c s (by omega);have g5:=zcK env c (m:Int) true hn;have g8:=zrg env (kidsL c m true) s.initial (zhy c m hn);have p2:decide ((m:Int)<i)= !decide ((i:Int)<=m):=by rw[Bool.eq_iff_iff];simp
  refine qf func113 call113 ntmps113 results113 ?_;by_cases p5:(i:Int)<=m
  ·have F:=ai12 chAV.eq_1 stAV.eq_1 k0 hs hm hq p1 p3 p4 p5 b0<|ai12 hnq z1 z2 z3 z4 w1 w2 w3 zbm.eq_1 zbz.eq_1 zbZ.eq_1<|ai3 p2 bneA @ite_self.{1};exact gz13 f1 f2 f3 f4 f5 f6 f7 f8 f9 fn fu g5 g8
  ·have F:=ai12 chAV.eq_1 stAV.eq_1 k0 hs hm hq p1 p3 p4 p5 b0<|ai12 hnq z1 z2 z3 z4 w1 w2 w3 zbm.eq_1 zbz.eq_1 zbZ.eq_1<|ai3 p2 bneA @ite_self.{1};exact gz13 f1 f2 f3 f4 f5 f6 f7 f8 f9 fn fu g5 g8
 refine qf func113 call113 ntmps113 results113 ?_;by_cases p1:s.parent<0
 ·have fu:=ziz env c s (by omega);have p2: ¬0<=s.parent:=by omega
  have hu:zbJ c s=false:=by unfold zbJ at_;rw[if_neg p2]
  have F:=ai12 chAV.eq_1 stAV.eq_1 k0 hs p1 p2 hu z1 z2 z3 z4<|ai8 w1 w2 w3 zbm.eq_1 zbz.eq_1 zbZ.eq_1 bneA @ite_self.{1};exact gz10 f1 f2 f3 f4 f5 f6 f7 f8 f9 fu
 ·have p2:(i:Int)<=s.parent:=by omega
  have p3: ¬s.parent<i:=by omega
  have p4:0<=s.parent:=by omega
  have b0:(s.parent == -1)=false:=zb1 (by omega);have F:=ai12 chAV.eq_1 stAV.eq_1 k0 hs p1 p2 p3 p4 b0 z1 z2<|ai10 z3 z4 w1 w2 w3 zbm.eq_1 zbz.eq_1 zbZ.eq_1 bneA @ite_self.{1};exact gz9 f1 f2 f3 f4 f5 f6 f7 f8 f9
end
section
theorem zrd (env:Env) (c:ChD) (t:TrD):Con prog env 115 [.agg (chAV c), .agg (trAV t)] (B (zch c t)):=by
 have f2:=zcB env t.event;have f3:=zkU env c t.guard;have f4:=zhj env c t.acts;have z1:=zcM t.guard;refine qf func115 call115 ntmps115 results115 ?_;by_cases p1:t.src<0
 ·rw[show zch c t=false by unfold zch zav at_;rw[if_neg (show ¬0<=t.src by omega)];rfl];have F:=ai3 chAV.eq_1 trAV.eq_1 p1;repeat refine st ?_
  exact aR
 obtain⟨m,hm⟩:=zdR (show 0<=t.src by omega);have p1: ¬(m:Int)<0:=by omega
 by_cases p2:c.states.length<=m
 ·have p2':(c.states.length:Int)<=(m:Int):=by omega
  rw[show zch c t=false by unfold zch zav;rw[hm,zaM,List.getElem?_eq_none p2];rfl];have F:=ai5 chAV.eq_1 trAV.eq_1 hm p1 p2';repeat refine st ?_
  exact aR
 have p2': ¬(c.states.length:Int)<=(m:Int):=by omega
 have k0:=nlt (show m<c.states.length by omega);obtain⟨q,hq,_⟩:=zak (show m<c.states.length by omega);have f1:=zdB env q;have hnq:zav c t.src=zcW q:=by unfold zav;rw[hm,zaM,hq]
 have hr:zch c t=(zcW q&&((t.event == [])||zbi t.event)&&((t.guard == [])||zbQ t.guard c.vars.length c.states.length)&&zcZ c.vars.length c.states.length t.acts&&((t.target == -1)||(decide (0<=t.target)&&decide (t.target<c.states.length)))):=by unfold zch;rw[hnq]
 rw[hr];by_cases p3:t.target< -1
 ·rw[show ((t.target == -1)||(decide (0<=t.target)&&decide (t.target<c.states.length)))=false by rw[zb1 (show t.target≠ -1 by omega),decide_eq_false (show ¬0<=t.target by omega)];rfl,Bool.and_false];have F:=ai9 chAV.eq_1 trAV.eq_1 stAV.eq_1 hm hq p1 p2' k0 p3;exact gz1 f1
 by_cases p4:(c.states.length:Int)<=t.target
 ·rw[show ((t.target == -1)||(decide (0<=t.target)&&decide (t.target<c.states.length)))=false by rw[zb1 (show t.target≠ -1 by omega),decide_eq_false (show ¬t.target<c.states.length by omega)];simp,Bool.and_false];have F:=ai10 chAV.eq_1 trAV.eq_1 stAV.eq_1 hm hq p1 p2' k0 p3 p4;exact gz1 f1
 rw[show ((t.target == -1)||(decide (0<=t.target)&&decide (t.target<c.states.length)))=true by rw[Bool.or_eq_true,Bool.and_eq_true];simp;omega,Bool.and_true];have F:=ai12 chAV.eq_1 trAV.eq_1 stAV.eq_1 hm hq p1 p2' k0 p3 p4 z1 bneA;exact gz4 f1 f2 f3 f4
abbrev chkT (c:ChD):AV:= .tuple [I (chk c).1,I (chk c).2]
theorem zb8 {c:ChD} {x:Int×Int} (h:chk c=x):chkT c= .tuple [I x.1,I x.2]:=by unfold chkT;rw[h]
theorem zpn (env:Env) (c:ChD):Con prog env 61 [.agg (chAV c)] (chkT c):=by
 have fname:=zcB env c.name;have z1:=zcM c.states;refine qf func61 call61 ntmps61 results61 ?_;by_cases l1:32<c.states.length
 ·have k1:(32:Int)< (c.states.length:Int):=by omega
  rw[zb8 (show chk c=(8, -1) by unfold chk;rw[if_pos (.inl l1)])];have F:=ai chAV.eq_1 k1;repeat refine st ?_
  exact aR
 have k1: ¬(32:Int)< (c.states.length:Int):=by omega
 by_cases l2:64<c.trans.length
 ·have k2:(64:Int)< (c.trans.length:Int):=by omega
  rw[zb8 (show chk c=(8, -1) by unfold chk;rw[if_pos (.inr (.inl l2))])];have F:=ai3 chAV.eq_1 k1 k2;repeat refine st ?_
  exact aR
 have k2: ¬(64:Int)< (c.trans.length:Int):=by omega
 by_cases l3:8<c.vars.length
 ·have k3:(8:Int)< (c.vars.length:Int):=by omega
  rw[zb8 (show chk c=(8, -1) by unfold chk;rw[if_pos (.inr (.inr l3))])];have F:=ai4 chAV.eq_1 k1 k2 k3;repeat refine st ?_
  exact aR
 have k3: ¬(8:Int)< (c.vars.length:Int):=by omega
 have hl: ¬(32<c.states.length\/64<c.trans.length\/8<c.vars.length):=by omega
 cases e2:(c.states == [])
 case true=>
  rw[zb8 (show chk c=(1, -1) by unfold chk;rw[if_neg hl,if_pos (.inl (by simpa using e2))])];have F:=ai6 chAV.eq_1 k1 k2 k3 z1 e2;repeat refine tz1 fname ?_
  exact aR
 cases e1:zbi c.name
 ·rw[zb8 (show chk c=(1, -1) by unfold chk;rw[if_neg hl,if_pos (.inr e1)])];have F:=ai7 chAV.eq_1 k1 k2 k3 z1 e2 e1;repeat refine tz1 fname ?_
  exact aR
 have hne: ¬(c.states=[]\/zbi c.name=false):=by
  rw[e1];simpa using e2
 have hc1:chk c=(match zaA (zeS c) c.vars.length with
  |some i=>(1,2000+(i:Int))
  | none=>match zaA (zgx c) c.states.length with
    |some i=>(1,(i:Int))
    | none=>if topB c=false then(1, -1) else match zaA (zkd c) c.trans.length with
      |some i=>(1,1000+(i:Int))
      |none=>(0, -1)):=by
  unfold chk;rw[if_neg hl,if_neg hne];rfl
 have F:=ai7 chAV.eq_1 k1 k2 k3 z1 e2 e1;repeat refine tz1 fname ?_
 refine zab (D:=Nat) (fun i vs=>[(1, .loc 1 (vs 1) 0 0),(4,I i)]) (fun _ _=>[(1,⟨5,[chAV c],26,false⟩)]) (fun i _ _=>i<=c.vars.length/\ ∀j,j<i->zeS c j=true) (fun i=>c.vars.length-i) 0 ?_ ?_ ?_ ?_
 ·exact⟨Nat.zero_le _,fun j hj=>by omega⟩
 ·exact qe
 ·have F:=chAV.eq_1;exact qe
 rintro i ws esc ⟨hi,hall⟩;by_cases hlt:i<c.vars.length
 ·obtain⟨v,hv,_⟩:=zak hlt;have q1:=nlt hlt;have q2:=zaa hlt (by omega);have hcon:=ztY env c (by omega) i v hv;cases e:varB c i v
  ·have q3:IntKind.i64.wrap (2000+(i:Int))=2000+(i:Int):=zaw (by omega) (by omega);rw[zb8 (show chk c=(1,2000+(i:Int)) by rw[hc1,zbC hlt hall (by rw[zfB hv];exact e)])];have F:=ai5 chAV.eq_1 q1 q2 q3 e;repeat refine tz1 hcon ?_
   exact aR
  ·have F:=ai4 chAV.eq_1 q1 q2 e;repeat refine tz1 hcon ?_
   refine⟨i+1,⟨hlt,zdd hall (by rw[zfB hv];exact e)⟩,?_,?_,?_⟩
   ·exact qe
   ·have F:=chAV.eq_1;exact qe
   ·omega
 have q1: ¬(i:Int)< (c.vars.length:Int):=by omega
 have hvn:zaA (zeS c) c.vars.length=none:=zaz fun j hj=>hall j (by omega);rw[hvn]at hc1;have F:=ai chAV.eq_1 q1;repeat refine st ?_
 refine zab (D:=Nat) (fun i vs=>[(1, .loc 1 (vs 1) 0 0),(5,I i)]) (fun _ _=>[(1,⟨5,[chAV c],26,false⟩)]) (fun i _ _=>i<=c.states.length/\ ∀j,j<i->zgx c j=true) (fun i=>c.states.length-i) 0 ?_ ?_ ?_ ?_
 ·exact⟨Nat.zero_le _,fun j hj=>by omega⟩
 ·exact qe
 ·have F:=chAV.eq_1;exact qe
 try clear ws esc hi hall q1 hlt i
 rintro i ws esc ⟨hi,hall⟩;by_cases hlt:i<c.states.length
 ·obtain⟨s,hs,_⟩:=zak hlt;have q1:=nlt hlt;have q2:=zaa hlt (by omega);have hcon:=zpm env c (by omega) i s hs;cases e:zbm c i s
  ·rw[zb8 (show chk c=(1,(i:Int)) by rw[hc1,zbC hlt hall (by rw[zgR hs];exact e)])];have F:=ai4 chAV.eq_1 q1 q2 e;repeat refine tz1 hcon ?_
   exact aR
  ·have F:=ai4 chAV.eq_1 q1 q2 e;repeat refine tz1 hcon ?_
   refine⟨i+1,⟨hlt,zdd hall (by rw[zgR hs];exact e)⟩,?_,?_,?_⟩
   ·exact qe
   ·have F:=chAV.eq_1;exact qe
   ·omega
 have q1: ¬(i:Int)< (c.states.length:Int):=by omega
 have hsn:zaA (zgx c) c.states.length=none:=zaz fun j hj=>hall j (by omega);rw[hsn]at hc1;by_cases p1:c.initial<0
 ·have ht:topB c=false:=by unfold topB at_;rw[if_neg (by omega)]
  rw[zb8 (show chk c=(1, -1) by rw[hc1,if_pos ht])];have F:=ai3 chAV.eq_1 q1 p1;repeat refine st ?_
  exact aR
 obtain⟨m,hm⟩:=zdR (show 0<=c.initial by omega);have p1': ¬(m:Int)<0:=by omega
 by_cases p2:(c.states.length:Int)<=(m:Int)
 ·have ht:topB c=false:=by unfold topB;rw[hm,zaM,List.getElem?_eq_none (by omega)]
  rw[zb8 (show chk c=(1, -1) by rw[hc1,if_pos ht])];have F:=ai5 chAV.eq_1 q1 hm p1' p2;repeat refine st ?_
  exact aR
 have p3:=nlt (show m<c.states.length by omega);obtain⟨q,hq,_⟩:=zak (show m<c.states.length by omega);have fnorm:=zdB env q;have htop:topB c=((q.parent == -1)&&zcW q):=by unfold topB;rw[hm,zaM,hq]
 cases e3:(q.parent == -1)
 ·rw[zb8 (show chk c=(1, -1) by rw[hc1,if_pos (by rw[htop,e3];rfl)])];have F:=ai10 chAV.eq_1 stAV.eq_1 q1 hm p1' p2 p3 hq e3 bneA;repeat refine tz1 fnorm ?_
  exact aR
 cases e4:zcW q
 ·rw[zb8 (show chk c=(1, -1) by rw[hc1,if_pos (by rw[htop,e3,e4];rfl)])];have F:=ai11 chAV.eq_1 stAV.eq_1 q1 hm p1' p2 p3 hq e3 e4 bneA;repeat refine tz1 fnorm ?_
  exact aR
 rw[if_neg (by rw[htop,e3,e4];simp)]at hc1;have F:=ai11 chAV.eq_1 stAV.eq_1 q1 hm p1' p2 p3 hq e3 e4 bneA;repeat refine tz1 fnorm ?_
 refine zab (D:=Nat) (fun i vs=>[(1, .loc 1 (vs 1) 0 0),(6,I i)]) (fun _ _=>[(1,⟨5,[chAV c],26,false⟩)]) (fun i _ _=>i<=c.trans.length/\ ∀j,j<i->zkd c j=true) (fun i=>c.trans.length-i) 0 ?_ ?_ ?_ ?_
 ·exact⟨Nat.zero_le _,fun j hj=>by omega⟩
 ·have F:=ai chAV.eq_1 hm;exact qe
 ·have F:=ai chAV.eq_1 hm;exact qe
 try clear ws esc hi hall q1 hlt i
 rintro i ws esc ⟨hi,hall⟩;by_cases hlt:i<c.trans.length
 ·obtain⟨t,ht,_⟩:=zak hlt;have q1:=nlt hlt;have q2:=zaa hlt (by omega);have hcon:=zrd env c t;cases e:zch c t
  ·have q3:IntKind.i64.wrap (1000+(i:Int))=1000+(i:Int):=zaw (by omega) (by omega);rw[zb8 (show chk c=(1,1000+(i:Int)) by rw[hc1,zbC hlt hall (by rw[zgQ ht];exact e)])];have F:=ai7 chAV.eq_1 trAV.eq_1 q1 q2 q3 ht e;repeat refine tz1 hcon ?_
   exact aR
  ·have F:=ai6 chAV.eq_1 trAV.eq_1 q1 q2 ht e;repeat refine tz1 hcon ?_
   refine⟨i+1,⟨hlt,zdd hall (by rw[zgQ ht];exact e)⟩,?_,?_,?_⟩
   ·exact qe
   ·have F:=chAV.eq_1;exact qe
   ·omega
 have q1: ¬(i:Int)< (c.trans.length:Int):=by omega
 rw[zb8 (show chk c=(0, -1) by rw[hc1,zaz fun j hj=>hall j (by omega)])];have F:=ai chAV.eq_1 q1;repeat refine st ?_
 exact aR
end
section
theorem zkI (env:Env) (l m:List Nat) (hl:l.length<=1000000):Con prog env 20 [.seq 1 (l.map zac), .seq 1 (m.map zac)] (B (decide (l=m))):=by
 by_cases h0:l.length=m.length
 ·refine qf func20 call20 ntmps20 results20 ?_;have g0:((l.length:Int) != (m.length:Int))=false:=by simp[h0]
  have F:=g0;repeat refine st ?_
  refine zab (D:=Nat) (fun j _=>[(0, .seq 1 (l.map zac)),(1, .seq 1 (m.map zac)),(4,B false),(5,I j)]) (fun _ _=>[]) (fun j _ _=>j<=l.length/\l.take j=m.take j) (fun j=>l.length-j) 0 ?_ ?_ ?_ ?_
  ·exact⟨Nat.zero_le _,rfl⟩
  ·exact qe
  ·exact qe
  rintro j ws esc ⟨hj,ht⟩;by_cases hlt:j<l.length
  ·have hlt2:j<m.length:=by omega
   obtain⟨a,ha⟩:=gE hlt;obtain⟨b,hb⟩:=gE hlt2;have g1:=nlt hlt;have g4:=nlt hlt2;have g2:=zaa hlt (by omega);by_cases e:a=b
   ·have g3:((a:Int) != (b:Int))=false:=by simp[e]
    have F:=ai7 g1 g2 g4 ha hb zac.eq_1 g3;repeat refine st ?_
    refine⟨j+1,⟨hlt,?_⟩,?_,?_,by omega⟩
    ·rw[List.take_add_one,List.take_add_one,ht,ha,hb,e]
    ·exact qe
    ·exact qe
   ·have g3:((a:Int) != (b:Int))=true:=by simp;omega
    have hr:decide (l=m)=false:=decide_eq_false fun e2=>e (by rw[e2]at ha;exact Option.some.inj (ha.symm.trans hb));rw[hr];have F:=ai7 g1 g2 g4 ha hb zac.eq_1 g3;repeat refine st ?_
    exact aR
  ·obtain rfl:j=l.length:=by omega
   have g1:=nl l.length;have hr:decide (l=m)=true:=decide_eq_true (by rwa [List.take_length,List.take_of_length_le (by omega)]at ht);rw[hr];have F:=g1;repeat refine st ?_
   exact aR
 ·have g0:((l.length:Int) != (m.length:Int))=true:=by simp;omega
  have hr:decide (l=m)=false:=decide_eq_false fun e=>h0 (by rw[e]);rw[hr];refine qf func20 call20 ntmps20 results20 ?_;have F:=g0;repeat refine st ?_
  exact aR
theorem zmB (env:Env) (c:ChD) (i:Int):Con prog env 86 [.agg (chAV c),I i] (B (inZ c i)):=by
 unfold inZ;by_cases h0:0<=i
 ·by_cases h1:i< (c.states.length:Int)
  ·refine qf func86 call86 ntmps86 results86 ?_;have F:=ai3 chAV.eq_1 h0 h1;repeat refine st ?_
   exact aR
  ·refine qf func86 call86 ntmps86 results86 ?_;have F:=ai3 chAV.eq_1 h0 h1;repeat refine st ?_
   exact aR
 ·refine qf func86 call86 ntmps86 results86 ?_;have F:=ai chAV.eq_1 h0;repeat refine st ?_
  exact aR
theorem zaS {c:ChD} (h:Right c) (i:Int) (real:Bool):(kidsL c i real).length<=32:=by
 have h1:=zbM c i real c.states.length;have h2:=h.few;have h1:(kidsL c i real).length<=c.states.length:=h1;omega
theorem ztE {c:ChD} (h:Right c) {i:Int} (hi: -1<=i):(walkL c i).length<=32:=by
 have hf:=h.few;have:=(zet h 40 i hi (by omega)).length_le_of_subset (l₂:=List.range c.states.length) fun m hm=>List.mem_range.2 ((zeu h 40 i m hi (by omega)).1 hm).1;simp at this;omega
end
section
theorem ziY (env:Env):Con prog env 70 [nilS] (.own 3 1 []):=(zbP env [] (by simp)).args (Strs.cons (Str.nil 1) Strs.nil)
theorem zaE (env:Env) (c:ChD):Con prog env 74 [zah c] (zaj c):=by
 refine qf func74 call74 ntmps74 results74 ?_;have F:=ai3 zah.eq_1 tabCells.eq_1 zaj.eq_1;repeat refine st ?_
 exact aR
theorem zas (env:Env) (c:ChD) (hs:Small c):Con prog env 31 [zah c] (.agg (chAV c)):=by
 have f0:=zhl env c hs;unfold chAV at f0;refine qf func31 call31 ntmps31 results31 ?_;have F:=ai zah.eq_1 tabCells.eq_1;repeat refine tz1 f0 ?_
 (refine zal ?_;show (zaG _ _ _).run _=some _;simp only[go_sem,F])
 rfl
theorem zkA (env:Env) (c:ChD) (hc:c.trans.length<=4096) (s:List UInt8):Con prog env 65 [zah c,Sg s] (I (evI c s)):=zlB env c (by omega) _ _ s
def tatL (c:ChD) (i e:Int):List Nat:=if e<0 then [] else atL c i e
theorem ztk (c:ChD) (i e:Int):(atL c i e).length<=c.trans.length:=zq6 ..
theorem zoS {c:ChD} {i e:Int} {q:Nat} (hq:idxP (i,e) (keysTo c c.trans.length) 0=some q):(zc1 c)[q]? =some [.agg [I i,I e], .seq 1 ((atL c i e).map zac)]:=by
 have:=(zhG hq).2;unfold zc1;rw[List.getElem?_map,Nat.sub_zero]at*;rw[this];rfl
theorem zqO (env:Env) (c:ChD) (hc:c.trans.length<=4096) (i e:Int):Con prog env 150 [zah c,I i,I e] (.own 3 1 ((tatL c i e).map zac)):=by
 have hl:=ztk c i e;have hm:=zrH c i e;unfold tatL;by_cases h:e<0
 ·rw[if_pos h];refine qw func150 call150 ntmps150 results150 ?_;have F:=ai3 zah.eq_1 tabCells.eq_1 h;repeat refine st ?_
  (refine zal ?_;refine⟨_,(by show (zaG _ _ _).run _=some _;simp only[go_sem,F];rfl),?_⟩)
  exact RStr.own_nil _ _ (by decide)
 ·rw[if_neg h];cases hq:idxP (i,e) (keysTo c c.trans.length) 0 with
  | none=>
    rw[hq]at hm;have f0:=ziY env;rw[show atL c i e=[] from zjp (zfu hq)];refine qf func150 call150 ntmps150 results150 ?_;have F:=ai4 zah.eq_1 tabCells.eq_1 h hm;repeat refine tz1 f0 ?_
    exact aR
  | some q=>
    rw[hq]at hm;have hk:=zoS hq;have f0:=zbP env ((atL c i e).map zac) (by rw[List.length_map];omega);refine qf func150 call150 ntmps150 results150 ?_;have F:=ai5 zah.eq_1 tabCells.eq_1 h hm hk;repeat refine tz1 f0 ?_
    exact aR
theorem zme (env:Env) (c:ChD) (hc:c.trans.length<=4096) (i:Int):Con prog env 149 [zah c,I i] (.own 3 1 ((atL c i (-1)).map zac)):=by
 have hl:=ztk c i (-1);have hm:=zrH c i (-1);cases hq:idxP (i, -1) (keysTo c c.trans.length) 0 with
 | none=>
   rw[hq]at hm;have f0:=ziY env;rw[show atL c i (-1)=[] from zjp (zfu hq)];refine qf func149 call149 ntmps149 results149 ?_;have F:=ai3 zah.eq_1 tabCells.eq_1 hm;repeat refine tz1 f0 ?_
   exact aR
 | some q=>
   rw[hq]at hm;have hk:=zoS hq;have f0:=zbP env ((atL c i (-1)).map zac) (by rw[List.length_map];omega);refine qf func149 call149 ntmps149 results149 ?_;have F:=ai4 zah.eq_1 tabCells.eq_1 hm hk;repeat refine tz1 f0 ?_
   exact aR
theorem zfb (env:Env) (c:ChD) (i:Int):Con prog env 111 [zah c,I i] (B (inZ c i)):=by
 unfold inZ;by_cases h0:0<=i
 ·by_cases h1:i< (c.states.length:Int)
  ·refine qf func111 call111 ntmps111 results111 ?_;have F:=ai4 zah.eq_1 tabCells.eq_1 h0 h1;repeat refine st ?_
   exact aR
  ·refine qf func111 call111 ntmps111 results111 ?_;have F:=ai4 zah.eq_1 tabCells.eq_1 h0 h1;repeat refine st ?_
   exact aR
 ·refine qf func111 call111 ntmps111 results111 ?_;have F:=ai3 zah.eq_1 tabCells.eq_1 h0;repeat refine st ?_
  exact aR
def tbegL (c:ChD) (i:Int):List Nat:=if inZ c (if i= -1 then c.initial else i)=true then sbL c (if i= -1 then c.initial else i).toNat else []
theorem zkB (env:Env) (c:ChD) (h:Full c) (i:Int):Con prog env 60 [zah c,I i] (.own 3 1 ((tbegL c i).map zac)):=by
 have hlen:=h.few;unfold tbegL;by_cases e:i= -1
 ·subst e;simp only[if_true];obtain⟨s,hs,hini,_⟩:=h.topS;have hi:=(List.getElem?_eq_some_iff.1 hs).1;have f0:=zfb env c c.initial;have hz:inZ c c.initial=true:=by rw[hini];exact zar.2 hi
  rw[hz]at f0;rw[hz,if_pos rfl];have f1:=zbP env ((sbL c (iniN c)).map zac) (by rw[List.length_map];have:=zq2 h (iniN c);omega);have hb:(begE c c.states.length)[iniN c]? =some [.seq 1 ((sbL c (iniN c)).map zac)]:=by unfold begE;rw[List.getElem?_map,List.getElem?_range hi];rfl
  have hbl:(begE c c.states.length).length=c.states.length:=by simp[begE]
  have g0:((iniN c:Nat):Int)< (c.states.length:Int):=by omega
  rw[hini]at f0 |-;rw[Int.toNat_natCast];unfold zah tabCells at f0 |-;rw[hini]at f0 |-;refine qf func60 call60 ntmps60 results60 ?_;have F:=ai3 hb hbl g0;repeat refine tz2 f0 f1 ?_
  exact aR
 ·rw[if_neg e];have e1:(i == -1)=false:=by simpa using e
  have f0:=zfb env c i;cases hz:inZ c i with
  | false=>
    rw[hz]at f0;rw[if_neg (by simp)];unfold zah tabCells at f0 |-;refine qw func60 call60 ntmps60 results60 ?_;have F:=e1;repeat refine tz1 f0 ?_
    (refine zal ?_;refine⟨_,(by show (zaG _ _ _).run _=some _;simp only[go_sem,F];rfl),?_⟩)
    exact RStr.own_nil _ _ (by decide)
  | true=>
    obtain⟨k,s,rfl,hs,ha⟩:=zb9 hz;have hi:=(List.getElem?_eq_some_iff.1 hs).1;rw[hz]at f0;rw[if_pos rfl,Int.toNat_natCast];have f1:=zbP env ((sbL c k).map zac) (by rw[List.length_map];have:=zq2 h k;omega);have hb:(begE c c.states.length)[k]? =some [.seq 1 ((sbL c k).map zac)]:=by unfold begE;rw[List.getElem?_map,List.getElem?_range hi];rfl
    have hbl:(begE c c.states.length).length=c.states.length:=by simp[begE]
    have g0:((k:Nat):Int)< (c.states.length:Int):=by omega
    unfold zah tabCells at f0 |-;refine qf func60 call60 ntmps60 results60 ?_;have F:=ai4 hb hbl g0 e1;repeat refine tz2 f0 f1 ?_
    exact aR
theorem zaN (env:Env) (c:ChD) (h:Full c) (i:Int):Con prog env 145 [zah c,I i] (.own 3 1 ((if i= -1\/inZ c i=true then kidsL c i true else []).map zac)):=by
 have hlen:=h.few;have f0:=zfb env c i;have f1:=zdl env c i (by omega);unfold chAV at f1;unfold zah tabCells at f0 |-;by_cases e:i= -1
 ·subst e;have hz:inZ c (-1)=false:=by unfold inZ;simp
  rw[hz]at f0;rw[if_pos (.inl rfl)];refine qf func145 call145 ntmps145 results145 ?_;repeat refine tz02 f0 f1 ?_
  exact aR0
 ·have e1:(i != -1)=true:=by simpa using e
  cases hz:inZ c i with
  | false=>
    rw[hz]at f0;rw[if_neg (by simp[e])];refine qw func145 call145 ntmps145 results145 ?_;have F:=e1;repeat refine tz2 f0 f1 ?_
    (refine zal ?_;refine⟨_,(by show (zaG _ _ _).run _=some _;simp only[go_sem,F];rfl),?_⟩)
    exact RStr.own_nil _ _ (by decide)
  | true=>
    rw[hz]at f0;rw[if_pos (.inr rfl)];refine qf func145 call145 ntmps145 results145 ?_;have F:=e1;repeat refine tz2 f0 f1 ?_
    exact aR
def memP (c:ChD) (i:Int) (k:Nat):Bool:=match c.states[k]? with
 |some s=>inZ c i&&((s.parent==i)&&zaq s)
 |none=>false
def memL (c:ChD) (i:Int):List Nat:=(List.range c.states.length).filter (memP c i)
theorem zud {c:ChD} (i:Int) (hz:inZ c i=true):memL c i=(kidsL c i false).filter fun k:Nat=> !inL (kidsL c i true) (k:Int):=by
 unfold memL kidsL zaX;rw[List.filter_filter];apply List.filter_congr;intro k hk;have hk:=List.mem_range.1 hk;obtain⟨s,hs⟩:=gE hk;have e1:zb6 c i false k=(s.parent==i):=by unfold zb6;rw[hs];simp
 have e2:inL ((List.range c.states.length).filter (zb6 c i true)) (k:Int)=((s.parent==i)&& !zaq s):=by
  rw[Bool.eq_iff_iff,zjW];constructor
  ·rintro⟨j,hj,e⟩;have:j=k:=by omega
   subst this;have:=(List.mem_filter.1 hj).2;unfold zb6 at this;rw[hs]at this;simpa using this
  ·intro e;refine⟨k,List.mem_filter.2 ⟨List.mem_range.2 hk,?_⟩,rfl⟩;unfold zb6;rw[hs];simpa using e
 unfold memP;rw[e1,e2,hs];simp only[hz,Bool.true_and];cases (s.parent==i)<;>cases zaq s<;>rfl
def zik (K R:List Nat) (j:Nat):List Nat:=(K.take j).filter fun k:Nat=> !inL R (k:Int)
theorem zpy {K R:List Nat} {j k:Nat} (h:K[j]? =some k):zik K R (j+1)=if inL R (k:Int) then zik K R j else zik K R j++[k]:=by
 unfold zik;rw[List.take_add_one,h,List.filter_append];cases hb:inL R (k:Int)<;>simp[hb]
theorem zrI (K R:List Nat) (j:Nat):(zik K R j).length<=K.length:=by
 unfold zik;exact Nat.le_trans (List.length_filter_le ..) (by rw[List.length_take];omega)
theorem zo2 (env:Env) (c:ChD) (h:Full c) (i:Int):Con prog env 187 [zah c,I i] (.own 3 1 ((memL c i).map zac)):=by
 have hlen:=h.few;have f0:=zfb env c i;cases hz:inZ c i with
 | false=>
   rw[hz]at f0
   have hm:memL c i=[]:=by
    unfold memL;rw[List.filter_eq_nil_iff];intro k _;unfold memP;cases c.states[k]? with
    |none=>simp
    |some s=>simp[hz]
   rw[hm];unfold zah tabCells at f0 |-;refine qw func187 call187 ntmps187 results187 ?_;repeat refine tz01 f0 ?_
   (refine zal ?_;refine⟨_,(by show (zaG _ _ _).run _=some _;simp only[go_sem];rfl),?_⟩)
   exact RStr.own_nil _ _ (by decide)
 | true=>
   rw[hz]at f0;rw[zud i hz];have f1:=zdl env c i (by omega);have f2:=zhk env c i (by omega);unfold chAV at f1 f2;have hKl:=zaS h.toRight i false;have hRl:=zaS h.toRight i true;generalize kidsL c i true=R at*;generalize kidsL c i false=K at*;unfold zah tabCells at f0 |-;refine qf func187 call187 ntmps187 results187 ?_;repeat refine tz03 f0 f1 f2 ?_
   refine zap 6 6 3 1 ?_;refine zab (D:=Nat) (fun j vs=>[(5, .row 18 (vs 18)),(6, .row 6 (vs 6)),(24, .row 24 (vs 24)),(25,I K.length),(26,I j)]) (fun j _=>[(6,⟨1,(zik K R j).map zac,3,true⟩),(18,⟨1,R.map zac,3,true⟩),(24,⟨1,K.map zac,3,true⟩)]) (fun j _ esc=>j<=K.length/\esc 6=false) (fun j=>K.length-j) 0 ?_ ?_ ?_ ?_
   ·exact⟨Nat.zero_le _,rfl⟩
   ·exact qe0
   ·(simp only[go_sem])
    try rfl
   rintro j ws esc ⟨hj,e0⟩;by_cases hlt:j<K.length
   ·obtain⟨k,hk⟩:=gE hlt;have q1:=nlt hlt;have q2:=zaa hlt (by omega);have f3:=zeo env R k (by omega);have hil:=zrI K R j;have hf:Fits ((zik K R j).length+1) 8:=zae (by omega) (by omega);have hn:=zpy (R:=R) hk;cases hb:inL R k with
    | true=>
      rw[hb]at f3;rw[hb,if_pos rfl]at hn;have F:=ai6 zac.eq_1 q1 q2 hk hf e0;repeat refine tz1 f3 ?_
      refine⟨j+1,⟨hlt,by simp only[go_sem,e0]⟩,?_,?_,by omega⟩
      ·exact qe
      ·have F:=ai3 zac.eq_1 hn @List.map_append.{0,0};exact qe
    | false=>
      rw[hb]at f3;rw[hb,if_neg Bool.false_ne_true]at hn;have F:=ai6 zac.eq_1 q1 q2 hk hf e0;repeat refine tz1 f3 ?_
      refine⟨j+1,⟨hlt,by simp only[go_sem,e0]⟩,?_,?_,by omega⟩
      ·exact qe
      ·have F:=ai3 zac.eq_1 hn @List.map_append.{0,0};exact qe
   ·obtain rfl:j=K.length:=by omega
    have q1:=nl K.length;have hall:zik K R K.length=K.filter fun k:Nat=> !inL R (k:Int):=by unfold zik;rw[List.take_length]
    have F:=ai3 q1 hall e0;repeat refine st ?_
    exact aR
end
section
theorem Str.seq {sz:Nat} {es' es:List (List AV)} (hl:es'.length=es.length) (hs: ∀(i:Nat) (e' e:List AV),es'[i]? =some e'->es[i]? =some e->Strs e' e):Str (.seq sz es') (.seq sz es):=fun S w v h=>by
 have cell: ∀ {i j:Nat} {c:AV},cellAt es i j=some c-> ∃c',cellAt es' i j=some c'/\Str c' c:=fun {i j c} hc=>by
  unfold cellAt at hc |-;cases he:es[i]? with
  |none=>rw[he]at hc;cases hc
  | some e=>
    rw[he]at hc;have hi:=(List.getElem?_eq_some_iff.1 he).1;have he':es'[i]? =some es'[i]:=List.getElem?_eq_getElem (by omega);obtain⟨h1,h2⟩:=hs i _ e he' he;have hj:=(List.getElem?_eq_some_iff.1 (show e[j]? =some c from hc)).1;rw[he'];exact⟨es'[i][j],List.getElem?_eq_getElem (by omega),h2 j _ c (List.getElem?_eq_getElem (by omega)) hc⟩
 cases h with
 | seq A n cap sz es' b o u hn hcap hA hz hc hr=>
   refine .seq A n cap sz es b o u (by omega) hcap hA (fun i e he=> ?_) (fun i j c h=> ?_) fun i j c h=> ?_
   ·have hi:=(List.getElem?_eq_some_iff.1 he).1;have he':es'[i]? =some es'[i]:=List.getElem?_eq_getElem (by omega);rw[<-(hs i _ e he' he).1];exact hz i _ he'
   ·obtain⟨c',h1,_⟩:=cell h;exact hc i j c' h1
   ·obtain⟨c',h1,h2⟩:=cell h;exact h2 _ _ _ (hr i j c' h1)
theorem Strs.one {c' c:AV} (h:Str c' c):Strs [c'] [c]:= .cons h .nil
def Strss (es' es:List (List AV)):Prop:=es'.length=es.length/\ ∀(i:Nat) (e' e:List AV),es'[i]? =some e'->es[i]? =some e->Strs e' e
theorem Strss.nil:Strss [] []:=⟨rfl,fun i c' c h _=>by simp at h⟩
theorem Strss.cons {e' e:List AV} {es' es:List (List AV)} (h:Strs e' e) (hs:Strss es' es):Strss (e'::es') (e::es):=⟨by simp[hs.1],fun i a b ha hb=>by
 cases i with
 | zero=>
   simp only[List.getElem?_cons_zero,Option.some.injEq]at ha hb;subst ha hb;exact h
 |succ i=>exact hs.2 i a b (by simpa using ha) (by simpa using hb)⟩
theorem Str.seqs {sz:Nat} {es' es:List (List AV)} (h:Strss es' es):Str (.seq sz es') (.seq sz es):= .seq h.1 h.2
end
section
def zht (c:ChD):Bool:=decide ((c.states.length:Int)<=40)&&decide ((c.trans.length:Int)<=70)&&decide ((c.vars.length:Int)<=10)
theorem zfL (env:Env) (c:ChD):Con prog env 23 [.agg (chAV c)] (B ((chk c).1==0)):=by
 have f0:=zpn env c;unfold chkT at f0;refine qf func23 call23 ntmps23 results23 ?_;repeat refine tz01 f0 ?_
 exact aR0
def zhK (c:ChD):Bool:=zht c&&((chk c).1==0)
theorem zwN {c:ChD} (h:(chk c).1=0):chk c=(0, -1):=by
 unfold chk at h |-;split at h
 ·simp at h
 rename_i h1;rw[if_neg h1];split at h
 ·simp at h
 rename_i h2;rw[if_neg h2];split at h
 ·simp at h
 rename_i h3;try simp only at h |-
 split at h
 ·simp at h
 rename_i h4;try simp only at h |-
 split at h
 ·simp at h
 rename_i h5;rw[if_neg h5];split at h
 ·simp at h
 ·rfl
theorem zsn {c:ChD} (h:zhK c=true):Full c:=by
 unfold zhK at h;rw[Bool.and_eq_true,beq_iff_eq]at h;exact full_of h.2
end
section
def znS (c:ChD) (i:Int) (s:List UInt8) (k:Nat):Bool:=match c.trans[k]? with|some t=>decide (t.src=i/\t.event=s)|none=>false
def zb4 (c:ChD) (i:Int) (s:List UInt8) (j:Nat):List Nat:=(List.range j).filter (znS c i s)
theorem zmF (p:Nat->Bool) (j:Nat):((List.range j).filter p).length<=j:=Nat.le_trans (List.length_filter_le ..) (by simp)
theorem zpl (c:ChD) (i:Int):zb4 c i [] c.trans.length=atL c i (-1):=by
 have:=zvy (c:=c) i [] (.inl rfl);rw[znf]at this;rw[this];rfl
theorem zpk (c:ChD) (i:Int) {s:List UInt8} (hs:s≠[]):zb4 c i s c.trans.length=tatL c i (evI c s):=by
 by_cases h:s∈evL c
 ·obtain⟨k,h1,_⟩:=zlH h;have:=zvy (c:=c) i s (.inr h);unfold tatL;rw[if_neg (by omega),this];rfl
 ·unfold tatL;rw[zsQ h,if_pos (by omega)];unfold zb4;rw[List.filter_eq_nil_iff];intro k hk hp;unfold znS at hp;cases ht:c.trans[k]? with
  |none=>rw[ht]at hp;cases hp
  | some t=>
    rw[ht]at hp;simp only[decide_eq_true_eq]at hp;exact h (zoB.2 ⟨hs,t,List.mem_of_getElem? ht,hp.2⟩)
end

end Go.Proofs.YtbpmkofnfgdegaaGreatDoor