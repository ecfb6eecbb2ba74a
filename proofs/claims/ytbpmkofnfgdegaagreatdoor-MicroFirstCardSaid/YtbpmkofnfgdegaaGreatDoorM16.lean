/- scriniumref24.Tran, Check: by the walk without memory. -/
import Derived.Test.YtbpmkofnfgdegaaGreatDoorM13
import Derived.Test.YtbpmkofnfgdegaaGreatDoorM6
import Derived.Test.YtbpmkofnfgdegaaGreatDoorM12
set_option maxRecDepth 100000
set_option maxHeartbeats 8000000
set_option linter.unusedSimpArgs false
namespace Go.Proofs.YtbpmkofnfgdegaaGreatDoor
open Go.Proofs.Tryz
open Go.RowKit
section
theorem zji (env:Env) (c:ChD) (l:List OpD):Con prog env 168 [.agg (chAV c),opsAV l] (B (zaF l c.vars.length c.states.length)):=by
 have hx:=zdW env l c.vars.length c.states.length;unfold zaF;refine qf func168 call168 ntmps168 results168 ?_;have F:=chAV.eq_1;repeat (first | refine st ?_ | refine cC hx ?_)
 exact aR
theorem zjn {m:List UInt8} (h:zax m=true):(m == [])=false:=by
 cases m with
 | nil=>cases h
 | cons a l=>rfl
theorem zq1 (env:Env) (c:ChD) (a:ActD):Con prog env 204 [.agg (chAV c), .agg (zam a)] (B (actB c.vars.length c.states.length a)):=by
 obtain⟨k,n,m,co⟩:=a;have hcode:=zji env c co;have hname:=zbJ env m
 have hco:((co.length:Int)==0)=(co == []):=by
  rw [Bool.eq_iff_iff];simp
 refine qf func204 call204 ntmps204 results204 ?_;by_cases hk1:k=1
 ·subst hk1;have hr:actB c.vars.length c.states.length ⟨1,n,m,co⟩=(decide (0<=n/\n<c.vars.length)&&(m == [])&&zaF co c.vars.length c.states.length):=rfl;rw [hr];cases e1:zax m
  case true=>
   have e2:=zjn e1;rw [e2,show ((decide (0<=n/\n<c.vars.length)&&false&&zaF co c.vars.length c.states.length))=false by simp];have F:=ai7 chAV.eq_1 zam.eq_1 e1 e2 bneA @Bool.true_beq @Bool.false_beq;repeat (first | refine st ?_ | refine cC hcode ?_ | refine cC hname ?_)
   exact aR
  cases e2:(m == [])
  ·rw [show ((decide (0<=n/\n<c.vars.length)&&false&&zaF co c.vars.length c.states.length))=false by simp];have F:=ai7 chAV.eq_1 zam.eq_1 e1 e2 bneA @Bool.true_beq @Bool.false_beq;repeat (first | refine st ?_ | refine cC hcode ?_ | refine cC hname ?_)
   exact aR
  by_cases h1:0<=n
  ·by_cases h2:n< (c.vars.length:Int)
   ·rw [show (decide (0<=n/\n<c.vars.length)&&true&&zaF co c.vars.length c.states.length)=zaF co c.vars.length c.states.length by simp [h1,h2]];have F:=ai9 chAV.eq_1 zam.eq_1 e1 e2 h1 h2 bneA @Bool.true_beq @Bool.false_beq;repeat (first | refine st ?_ | refine cC hcode ?_ | refine cC hname ?_)
    exact aR
   ·rw [show (decide (0<=n/\n<c.vars.length)&&true&&zaF co c.vars.length c.states.length)=false by simp [h2]];have F:=ai9 chAV.eq_1 zam.eq_1 e1 e2 h1 h2 bneA @Bool.true_beq @Bool.false_beq;repeat (first | refine st ?_ | refine cC hcode ?_ | refine cC hname ?_)
    exact aR
  ·rw [show (decide (0<=n/\n<c.vars.length)&&true&&zaF co c.vars.length c.states.length)=false by simp [h1]];have F:=ai8 chAV.eq_1 zam.eq_1 e1 e2 h1 bneA @Bool.true_beq @Bool.false_beq;repeat (first | refine st ?_ | refine cC hcode ?_ | refine cC hname ?_)
   exact aR
 by_cases hk3:k=3
 ·subst hk3;have hr:actB c.vars.length c.states.length ⟨3,n,m,co⟩=((n==0)&&(m == [])&&zaF co c.vars.length c.states.length):=rfl;rw [hr];cases e1:zax m
  case true=>
   have e2:=zjn e1;rw [e2,show (((n==0)&&false&&zaF co c.vars.length c.states.length))=false by simp];have F:=ai7 chAV.eq_1 zam.eq_1 e1 e2 bneA @Bool.true_beq @Bool.false_beq;repeat (first | refine st ?_ | refine cC hcode ?_ | refine cC hname ?_)
   exact aR
  cases e2:(m == [])
  ·rw [show (((n==0)&&false&&zaF co c.vars.length c.states.length))=false by simp];have F:=ai7 chAV.eq_1 zam.eq_1 e1 e2 bneA @Bool.true_beq @Bool.false_beq;repeat (first | refine st ?_ | refine cC hcode ?_ | refine cC hname ?_)
   exact aR
  cases e3:(n==0)
  ·rw [show (false&&true&&zaF co c.vars.length c.states.length)=false from rfl];have F:=ai8 chAV.eq_1 zam.eq_1 e1 e2 e3 bneA @Bool.true_beq @Bool.false_beq;repeat (first | refine st ?_ | refine cC hcode ?_ | refine cC hname ?_)
   exact aR
  ·rw [show (true&&true&&zaF co c.vars.length c.states.length)=zaF co c.vars.length c.states.length by simp];have F:=ai8 chAV.eq_1 zam.eq_1 e1 e2 e3 bneA @Bool.true_beq @Bool.false_beq;repeat (first | refine st ?_ | refine cC hcode ?_ | refine cC hname ?_)
   exact aR
 by_cases hk2:k=2
 ·subst hk2;have hr:actB c.vars.length c.states.length ⟨2,n,m,co⟩=((n==0)&&zax m&&zaF co c.vars.length c.states.length):=rfl;rw [hr];cases e1:zax m
  ·rw [Bool.and_false,Bool.false_and];have F:=ai6 chAV.eq_1 zam.eq_1 e1 bneA @Bool.true_beq @Bool.false_beq;repeat (first | refine st ?_ | refine cC hcode ?_ | refine cC hname ?_)
   exact aR
  cases e3:(n==0)
  ·rw [Bool.false_and,Bool.false_and];have F:=ai7 chAV.eq_1 zam.eq_1 e1 e3 bneA @Bool.true_beq @Bool.false_beq;repeat (first | refine st ?_ | refine cC hcode ?_ | refine cC hname ?_)
   exact aR
  ·rw [Bool.true_and,Bool.true_and];have F:=ai7 chAV.eq_1 zam.eq_1 e1 e3 bneA @Bool.true_beq @Bool.false_beq;repeat (first | refine st ?_ | refine cC hcode ?_ | refine cC hname ?_)
   exact aR
 by_cases hk4:k=4
 ·subst hk4;have hr:actB c.vars.length c.states.length ⟨4,n,m,co⟩=((n==0)&&zax m&&zaF co c.vars.length c.states.length):=rfl;rw [hr];cases e1:zax m
  ·rw [Bool.and_false,Bool.false_and];have F:=ai6 chAV.eq_1 zam.eq_1 e1 bneA @Bool.true_beq @Bool.false_beq;repeat (first | refine st ?_ | refine cC hcode ?_ | refine cC hname ?_)
   exact aR
  cases e3:(n==0)
  ·rw [Bool.false_and,Bool.false_and];have F:=ai7 chAV.eq_1 zam.eq_1 e1 e3 bneA @Bool.true_beq @Bool.false_beq;repeat (first | refine st ?_ | refine cC hcode ?_ | refine cC hname ?_)
   exact aR
  ·rw [Bool.true_and,Bool.true_and];have F:=ai7 chAV.eq_1 zam.eq_1 e1 e3 bneA @Bool.true_beq @Bool.false_beq;repeat (first | refine st ?_ | refine cC hcode ?_ | refine cC hname ?_)
   exact aR
 by_cases hk5:k=5
 ·subst hk5;have hr:actB c.vars.length c.states.length ⟨5,n,m,co⟩=((n==0)&&zax m&&(co == [])):=rfl;rw [hr];cases e1:zax m
  ·rw [Bool.and_false,Bool.false_and];have F:=ai6 chAV.eq_1 zam.eq_1 e1 bneA @Bool.true_beq @Bool.false_beq;repeat (first | refine st ?_ | refine cC hcode ?_ | refine cC hname ?_)
   exact aR
  cases e3:(n==0)
  ·rw [Bool.false_and,Bool.false_and];have F:=ai7 chAV.eq_1 zam.eq_1 e1 e3 bneA @Bool.true_beq @Bool.false_beq;repeat (first | refine st ?_ | refine cC hcode ?_ | refine cC hname ?_)
   exact aR
  ·rw [Bool.true_and,Bool.true_and];have F:=ai8 chAV.eq_1 zam.eq_1 e1 e3 hco bneA @Bool.true_beq @Bool.false_beq;repeat (first | refine st ?_ | refine cC hcode ?_ | refine cC hname ?_)
   exact aR
 have hr:actB c.vars.length c.states.length ⟨k,n,m,co⟩=false:=by unfold actB; rw [if_neg hk1,if_neg (fun h=>h.elim hk2 hk4),if_neg hk3,if_neg hk5]
 have b2:=zba hk2;have b4:=zba hk4;have b5:=zba hk5;rw [hr];by_cases h1:k<1
 ·have F:=ai9 chAV.eq_1 zam.eq_1 h1 b2 b4 b5 bneA @Bool.true_beq @Bool.false_beq;repeat (first | refine st ?_ | refine cC hcode ?_ | refine cC hname ?_)
  exact aR
 have h2:5<k:=by omega
 have F:=ai10 chAV.eq_1 zam.eq_1 h1 h2 b2 b4 b5 bneA @Bool.true_beq @Bool.false_beq;repeat (first | refine st ?_ | refine cC hcode ?_ | refine cC hname ?_)
 exact aR
theorem zds (env:Env) (c:ChD) (l:List ActD):Con prog env 165 [.agg (chAV c),actsAV l] (B (zbq c.vars.length c.states.length l)):=by
 refine qf func165 call165 ntmps165 results165 ?_;by_cases hlen:32<l.length
 ·have k0:(32:Int)< (l.length:Int):=by omega
  rw [show zbq c.vars.length c.states.length l=false by unfold zbq; rw [decide_eq_false (by omega)]; rfl];have F:=ai chAV.eq_1 k0;repeat refine st ?_
  exact aR
 have k0: ¬(32:Int)< (l.length:Int):=by omega
 rw [show zbq c.vars.length c.states.length l=l.all (actB c.vars.length c.states.length) by unfold zbq; rw [decide_eq_true (by omega)]; rfl];have F:=ai chAV.eq_1 k0;repeat refine st ?_
 refine zab (D:=Nat) (fun k vs=>[(1,actsAV l),(2, .loc 2 (vs 2) 0 0),(5,I k)]) (fun _ _=>[(2,⟨5,[chAV c],26,false⟩)]) (fun k _ _=>k<=l.length/\(l.take k).all (actB c.vars.length c.states.length)=true) (fun k=>l.length-k) 0 ?_ ?_ ?_ ?_
 ·exact⟨Nat.zero_le _,rfl⟩
 ·exact qe
 ·exact qe
 rintro k ws esc ⟨hk,hall⟩;by_cases hlt:k<l.length
 ·obtain⟨a,hx,hm⟩:=zal hlt;have k1:=nlt hlt;have k2:=zaa hlt (by omega);have hact:=zq1 env c a;cases h1:actB c.vars.length c.states.length a with
  | true=>
    have F:=ai6 chAV.eq_1 k1 k2 hx zam.eq_1 h1;repeat (first | refine st ?_ | refine cC hact ?_)
    refine⟨k+1,⟨hlt,zbH hall hx h1⟩, ?_, ?_, ?_⟩
    ·exact qe
    ·exact qe
    ·omega
  | false=>
    rw [zfa hx h1];have F:=ai6 chAV.eq_1 k1 k2 hx zam.eq_1 h1;repeat (first | refine st ?_ | refine cC hact ?_)
    exact aR
 ·have k1: ¬(k:Int)< (l.length:Int):=by omega
  rw [ziM hall (by omega)];have F:=ai chAV.eq_1 k1;repeat refine st ?_
  exact aR
theorem zhj (env:Env) (c:ChD) (s:StD) (hp:s.parent<c.states.length):Con prog env 167 [.agg (chAV c), .agg (stAV s)] (B (zaO c s)):=by
 refine qf func167 call167 ntmps167 results167 ?_;by_cases h1:0<=s.parent
 ·obtain⟨m,hm⟩:=zcB h1;obtain⟨q,hq,_⟩:=zal (show m<c.states.length by omega);have k1:=nlt (show m<c.states.length by omega);rw [show zaO c s=(q.kind==1) by unfold zaO; rw [hm,zbd,hq]];have F:=ai5 chAV.eq_1 stAV.eq_1 hm hq k1;repeat refine st ?_
  exact aR
 ·rw [show zaO c s=false by unfold zaO at_; rw [if_neg h1]];have F:=ai3 chAV.eq_1 stAV.eq_1 h1;repeat refine st ?_
  exact aR
theorem zff (env:Env) (c:ChD) (l:List Nat) (hl:l.length<=1000000) (hk: ∀k∈l,k<c.states.length):Con prog env 166 [.agg (chAV c),nsAV l] (B ((l.all fun k=>zaU c k)&&decide (0<l.length))):=by
 refine qf func166 call166 ntmps166 results166 ?_;have F:=chAV.eq_1;repeat refine st ?_
 refine zab (D:=Nat) (fun k vs=>[(1,nsAV l),(2, .loc 2 (vs 2) 0 0),(5,I k)]) (fun _ _=>[(2,⟨5,[chAV c],26,false⟩)]) (fun k _ _=>k<=l.length/\(l.take k).all (fun k=>zaU c k)=true) (fun k=>l.length-k) 0 ?_ ?_ ?_ ?_
 ·exact⟨Nat.zero_le _,rfl⟩
 ·exact qe
 ·exact qe
 rintro j ws esc ⟨hj,hall⟩;by_cases hlt:j<l.length
 ·obtain⟨k,hx,hm⟩:=zal hlt;obtain⟨q,hq,_⟩:=zal (hk k hm);have k1:=nlt hlt;have k2:=zaa hlt (by omega);have k3:=nlt (hk k hm);have hn:=zc0 env q;have hnq:zaU c (k:Int)=zco q:=by unfold zaU; rw [zbd,hq]
  cases h1:zco q with
  | true=>
    have F:=ai9 chAV.eq_1 k1 k2 k3 hx hq zae.eq_1 stAV.eq_1 h1;repeat (first | refine st ?_ | refine cC hn ?_)
    refine⟨j+1,⟨hlt,zbH (p:=fun k:Nat=>zaU c k) hall hx (hnq.trans h1)⟩, ?_, ?_, ?_⟩
    ·exact qe
    ·exact qe
    ·omega
  | false=>
    rw [zfa (p:=fun k:Nat=>zaU c k) hx (hnq.trans h1),Bool.false_and];have F:=ai9 chAV.eq_1 k1 k2 k3 hx hq zae.eq_1 stAV.eq_1 h1;repeat (first | refine st ?_ | refine cC hn ?_)
    exact aR
 ·have k1: ¬(j:Int)< (l.length:Int):=by omega
  rw [ziM hall (by omega),Bool.true_and];have h3:decide ((0:Int)< (l.length:Int))=decide (0<l.length):=by rw [Bool.eq_iff_iff]; simp
  have F:=ai chAV.eq_1 k1;repeat refine st ?_
  (refine zak ?_; show (zaz _ _ _).run _=some _; simp only [go_sem,F])
  exact congrArg B h3
theorem zqZ (env:Env) (c:ChD) (hn:c.vars.length<=1000000) (i:Nat) (v:VarD) (hv:c.vars[i]? =some v):Con prog env 112 [.agg (chAV c),I i] (B (varB c i v)):=by
 have hi:i<c.vars.length:=(List.getElem?_eq_some_iff.1 hv).1;have k0:=nlt hi;have f1:=zbJ env v.name;have f2:=zbV env v.start;refine qf func112 call112 ntmps112 results112 ?_;have F:=ai4 chAV.eq_1 k0 hv zca.eq_1;repeat refine st ?_
 refine zab (D:=Nat) (fun j vs=>[(1,I i),(2, .loc 2 (vs 2) 0 0),(5, .loc 5 (vs 5) 0 0),(6,I j)]) (fun _ _=>[(2,⟨5,[chAV c],26,false⟩),(5,⟨2,[zca v],110,false⟩)]) (fun j _ _=>j<=i/\newVar c v.name j=true) (fun j=>i-j) 0 ?_ ?_ ?_ ?_
 ·exact⟨Nat.zero_le _,rfl⟩
 ·exact qe
 ·exact qe
 rintro j ws esc ⟨hj,hall⟩;by_cases hlt:j<i
 ·obtain⟨x,hx,_⟩:=zal (show j<c.vars.length by omega);have hx':(c.vars.take i)[j]? =some x:=by rw [List.getElem?_take,if_pos hlt]; exact hx
  have k1:=nlt hlt;have k3:=nlt (show j<c.vars.length by omega);have k2:=zaa hlt (by omega);cases e:(x.name==v.name)
  ·have F:=ai7 chAV.eq_1 k1 k2 k3 hx zca.eq_1 e;repeat refine st ?_
   refine⟨j+1,⟨hlt,zgl hall hx e⟩, ?_, ?_, ?_⟩
   ·exact qe
   ·exact qe
   ·omega
  ·rw [show varB c i v=false by unfold varB newVar; rw [zfa (p:=fun x:VarD=> !(x.name==v.name)) hx' (by rw [e]; rfl)]; rfl];have F:=ai7 chAV.eq_1 k1 k2 k3 hx zca.eq_1 e;repeat refine st ?_
   exact aR
 ·have k1: ¬(j:Int)< (i:Int):=by omega
  obtain rfl:j=i:=by omega
  have hr:varB c j v=(zax v.name&& !(v.name == [100,97,116,97])&& !(v.name == [105,110])&&zaj v.start):=by
   unfold varB zaj;rw [hall];simp only [Bool.true_and,Bool.and_assoc]
  rw [hr];cases e1:zax v.name
  ·have F:=ai4 k1 zca.eq_1 e1 bneA;repeat (first | refine st ?_ | refine cC f1 ?_ | refine cC f2 ?_)
   exact aR
  cases e2:(v.name == [100,97,116,97])
  ·cases e3:(v.name == [105,110])
   ·have F:=ai6 k1 zca.eq_1 e1 e2 e3 bneA;repeat (first | refine st ?_ | refine cC f1 ?_ | refine cC f2 ?_)
    exact aR
   ·have F:=ai6 k1 zca.eq_1 e1 e2 e3 bneA;repeat (first | refine st ?_ | refine cC f1 ?_ | refine cC f2 ?_)
    exact aR
  ·have F:=ai5 k1 zca.eq_1 e1 e2 bneA;repeat (first | refine st ?_ | refine cC f1 ?_ | refine cC f2 ?_)
   exact aR
end
section
theorem zsH {α:Type} [DecidableEq α] (l:List α):(0< (l.length:Int))=((l == [])=false):=by
 rw [eq_iff_iff];cases l<;>simp
theorem zib (env:Env) (c:ChD) (hn:c.states.length<=1000000) (i:Nat) (s:StD) (hs:c.states[i]? =some s) (hp:s.parent= -1):Con prog env 113 [.agg (chAV c),I i] (B (zaq c i s)):=by
 have hi:i<c.states.length:=(List.getElem?_eq_some_iff.1 hs).1;have k0:=nlt hi;have f1:=zbJ env s.name;have f2:=zjg env c s.name hn;have f3:=zds env c s.inn;have f4:=zds env c s.out;have f5:=zbo env c (i:Int) true hn;have f6:=zbo env c (i:Int) false hn;have f7:=za9 env s
 have hlen:(kidsL c i true).length<=1000000:=by
  have:=za4 c i true c.states.length;unfold kidsL;omega
 have f8:=zgg env (kidsL c i true) s.initial hlen;have f9:=zff env c (kidsL c i true) hlen (fun k hk=>(zeD hk).1);have z1:=zbM (kidsL c i true);have z2:=zsH (kidsL c i false);have z3:=zbM s.out;have z4:=zbM s.inn;refine qf func113 call113 ntmps113 results113 ?_;cases e1:zax s.name
 ·rw [show zaq c i s=false by unfold zaq; rw [e1]; rfl];have F:=ai6 chAV.eq_1 stAV.eq_1 k0 hs bneA e1;repeat (first | refine st ?_ | refine cC f1 ?_)
  exact aR
 cases e2:(zg6 c s.name==(i:Int))
 ·rw [show zaq c i s=false by unfold zaq; rw [e2]; simp];have F:=ai7 chAV.eq_1 stAV.eq_1 k0 hs bneA e1 e2;repeat (first | refine st ?_ | refine cC f1 ?_ | refine cC f2 ?_)
  exact aR
 cases e3:zbq c.vars.length c.states.length s.inn
 ·rw [show zaq c i s=false by unfold zaq; rw [e3]; simp];have F:=ai8 chAV.eq_1 stAV.eq_1 k0 hs bneA e1 e2 e3;repeat (first | refine st ?_ | refine cC f1 ?_ | refine cC f2 ?_ | refine cC f3 ?_)
  exact aR
 cases e4:zbq c.vars.length c.states.length s.out
 ·rw [show zaq c i s=false by unfold zaq; rw [e4]; simp];have F:=ai9 chAV.eq_1 stAV.eq_1 k0 hs bneA e1 e2 e3 e4;repeat (first | refine st ?_ | refine cC f1 ?_ | refine cC f2 ?_ | refine cC f3 ?_ | refine cC f4 ?_)
  exact aR
 have hpar:zaH c i s=true:=by unfold zaH; rw [hp]; rfl
 have hu:zaO c s=false:=by unfold zaO at_; rw [hp]; rfl
 have hpp:((s.parent == -1)||zaO c s)=true:=by rw [hp]; rfl
 have fu:=zhj env c s (by omega);have hst:zaq c i s=zap c i s:=by unfold zaq; rw [e1,e2,e3,e4,hpar]; simp
 rw [hst];by_cases hk1:s.kind=1
 ·cases e5:(kidsL c i true == [])
  ·rw [show zap c i s=inL (kidsL c i true) s.initial by unfold zap; rw [if_pos hk1,if_neg (by simpa using e5)]];have F:=ai13 chAV.eq_1 stAV.eq_1 k0 hs bneA e1 e2 e3 e4 hp hk1 z1 e5;repeat (first | refine st ?_ | refine cC f1 ?_ | refine cC f2 ?_ | refine cC f3 ?_ | refine cC f4 ?_ | refine cC f5 ?_ | refine cC f8 ?_)
   exact aR
  ·rw [show zap c i s=(s.initial == -1) by unfold zap; rw [if_pos hk1,if_pos (by simpa using e5)]];have F:=ai13 chAV.eq_1 stAV.eq_1 k0 hs bneA e1 e2 e3 e4 hp hk1 z1 e5;repeat (first | refine st ?_ | refine cC f1 ?_ | refine cC f2 ?_ | refine cC f3 ?_ | refine cC f4 ?_ | refine cC f5 ?_ | refine cC f8 ?_)
   exact aR
 have b1:=zba hk1;by_cases hk2:s.kind=2
 ·have hr:zap c i s=(((kidsL c i true).all fun k=>zaU c k)&&decide (0< (kidsL c i true).length)&&(s.initial == -1)):=by unfold zap; rw [if_neg hk1,if_pos hk2]
  rw [hr];cases e5:(s.initial == -1)
  ·rw [Bool.and_false];have F:=ai12 chAV.eq_1 stAV.eq_1 k0 hs bneA e1 e2 e3 e4 hp hk2 e5;repeat (first | refine st ?_ | refine cC f1 ?_ | refine cC f2 ?_ | refine cC f3 ?_ | refine cC f4 ?_ | refine cC f5 ?_ | refine cC f9 ?_)
   exact aR
  ·rw [Bool.and_true];have F:=ai12 chAV.eq_1 stAV.eq_1 k0 hs bneA e1 e2 e3 e4 hp hk2 e5;repeat (first | refine st ?_ | refine cC f1 ?_ | refine cC f2 ?_ | refine cC f3 ?_ | refine cC f4 ?_ | refine cC f5 ?_ | refine cC f9 ?_)
   exact aR
 have b2:=zba hk2;cases e5:(kidsL c i false == [])
 ·rw [show zap c i s=false by unfold zap; rw [if_neg hk1,if_neg hk2,e5]; simp];have F:=ai14 chAV.eq_1 stAV.eq_1 k0 hs bneA e1 e2 e3 e4 hp b1 b2 z2 e5;repeat (first | refine st ?_ | refine cC f1 ?_ | refine cC f2 ?_ | refine cC f3 ?_ | refine cC f4 ?_ | refine cC f5 ?_ | refine cC f6 ?_)
  exact aR
 by_cases hk3:s.kind=3
 ·have hr:zap c i s=((kidsL c i false == [])&&((s.parent == -1)||zaO c s)&&(s.initial == -1)&&(s.out == [])):=by unfold zap; rw [if_neg hk1,if_neg hk2,if_pos hk3]
  rw [hr,e5,hpp];cases e6:(s.initial == -1)
  ·rw [Bool.and_false,Bool.false_and];have F:=ai14 chAV.eq_1 stAV.eq_1 k0 hs bneA e1 e2 e3 e4 hp hk3 z2 e5 e6;repeat (first | refine st ?_ | refine cC f1 ?_ | refine cC f2 ?_ | refine cC f3 ?_ | refine cC f4 ?_ | refine cC f5 ?_ | refine cC f6 ?_ | refine cC fu ?_)
   exact aR
  cases e7:(s.out == [])
  ·rw [Bool.and_false];have F:=ai16 chAV.eq_1 stAV.eq_1 k0 hs bneA e1 e2 e3 e4 hp hk3 z2 z3 e5 e6 e7;repeat (first | refine st ?_ | refine cC f1 ?_ | refine cC f2 ?_ | refine cC f3 ?_ | refine cC f4 ?_ | refine cC f5 ?_ | refine cC f6 ?_ | refine cC fu ?_)
   exact aR
  have F:=ai16 chAV.eq_1 stAV.eq_1 k0 hs bneA e1 e2 e3 e4 hp hk3 z2 z3 e5 e6 e7;repeat (first | refine st ?_ | refine cC f1 ?_ | refine cC f2 ?_ | refine cC f3 ?_ | refine cC f4 ?_ | refine cC f5 ?_ | refine cC f6 ?_ | refine cC fu ?_)
  exact aR
 have b3:=zba hk3;by_cases hk45:s.kind=4\/s.kind=5
 ·have hr:zap c i s=((kidsL c i false == [])&&zaO c s&&inL (kidsL c s.parent true) s.initial&&(s.inn == [])&&(s.out == [])):=by unfold zap; rw [if_neg hk1,if_neg hk2,if_neg hk3,if_pos hk45]
  have e6:zaI s=true:=by unfold zaI; simpa using hk45
  rw [hr,e5,Bool.true_and];rw [hu,Bool.false_and,Bool.false_and,Bool.false_and];have F:=ai17 chAV.eq_1 stAV.eq_1 k0 hs bneA e1 e2 e3 e4 hp b1 b2 b3 z2 e5 e6 hu;repeat (first | refine st ?_ | refine cC f1 ?_ | refine cC f2 ?_ | refine cC f3 ?_ | refine cC f4 ?_ | refine cC f5 ?_ | refine cC f6 ?_ | refine cC f7 ?_ | refine cC fu ?_)
  exact aR
 have e6:zaI s=false:=by unfold zaI; simpa using hk45
 rw [show zap c i s=false by unfold zap; rw [if_neg hk1,if_neg hk2,if_neg hk3,if_neg hk45]];have F:=ai16 chAV.eq_1 stAV.eq_1 k0 hs bneA e1 e2 e3 e4 hp b1 b2 b3 z2 e5 e6;repeat (first | refine st ?_ | refine cC f1 ?_ | refine cC f2 ?_ | refine cC f3 ?_ | refine cC f4 ?_ | refine cC f5 ?_ | refine cC f6 ?_ | refine cC f7 ?_)
 exact aR
end
section
theorem zq2 {α:Type} [DecidableEq α] (l:List α):(0< (l.length:Int))=((l == [])=false):=by
 rw [eq_iff_iff];cases l<;>simp
theorem zjc (env:Env) (c:ChD) (hn:c.states.length<=1000000) (i:Nat) (s:StD) (hs:c.states[i]? =some s) (hp: ¬s.parent= -1):Con prog env 113 [.agg (chAV c),I i] (B (zaq c i s)):=by
 have hi:i<c.states.length:=(List.getElem?_eq_some_iff.1 hs).1;have k0:=nlt hi;have f1:=zbJ env s.name;have f2:=zjg env c s.name hn;have f3:=zds env c s.inn;have f4:=zds env c s.out;have f5:=zbo env c (i:Int) true hn;have f6:=zbo env c (i:Int) false hn;have f7:=za9 env s
 have hlen:(kidsL c i true).length<=1000000:=by
  have:=za4 c i true c.states.length;unfold kidsL;omega
 have f8:=zgg env (kidsL c i true) s.initial hlen;have f9:=zff env c (kidsL c i true) hlen (fun k hk=>(zeD hk).1);have z1:=zbM (kidsL c i true);have z2:=zq2 (kidsL c i false);have z3:=zbM s.out;have z4:=zbM s.inn;refine qf func113 call113 ntmps113 results113 ?_;cases e1:zax s.name
 ·rw [show zaq c i s=false by unfold zaq; rw [e1]; rfl];have F:=ai6 chAV.eq_1 stAV.eq_1 k0 hs bneA e1;repeat (first | refine st ?_ | refine cC f1 ?_)
  exact aR
 cases e2:(zg6 c s.name==(i:Int))
 ·rw [show zaq c i s=false by unfold zaq; rw [e2]; simp];have F:=ai7 chAV.eq_1 stAV.eq_1 k0 hs bneA e1 e2;repeat (first | refine st ?_ | refine cC f1 ?_ | refine cC f2 ?_)
  exact aR
 cases e3:zbq c.vars.length c.states.length s.inn
 ·rw [show zaq c i s=false by unfold zaq; rw [e3]; simp];have F:=ai8 chAV.eq_1 stAV.eq_1 k0 hs bneA e1 e2 e3;repeat (first | refine st ?_ | refine cC f1 ?_ | refine cC f2 ?_ | refine cC f3 ?_)
  exact aR
 cases e4:zbq c.vars.length c.states.length s.out
 ·rw [show zaq c i s=false by unfold zaq; rw [e4]; simp];have F:=ai9 chAV.eq_1 stAV.eq_1 k0 hs bneA e1 e2 e3 e4;repeat (first | refine st ?_ | refine cC f1 ?_ | refine cC f2 ?_ | refine cC f3 ?_ | refine cC f4 ?_)
  exact aR
 have b0:=zba hp;by_cases p1:s.parent<0
 ·rw [show zaq c i s=false by unfold zaq zaH; rw [b0,decide_eq_false (show ¬0<=s.parent by omega)]; simp];have F:=ai11 chAV.eq_1 stAV.eq_1 k0 hs bneA e1 e2 e3 e4 b0 p1;repeat (first | refine st ?_ | refine cC f1 ?_ | refine cC f2 ?_ | refine cC f3 ?_ | refine cC f4 ?_)
  exact aR
 obtain⟨m,hm⟩:=zcB (show 0<=s.parent by omega);have p1: ¬(m:Int)<0:=by omega
 have b0:((m:Int) == -1)=false:=zba (by omega);by_cases p2:(i:Int)<=(m:Int)
 ·rw [show zaq c i s=false by unfold zaq zaH; rw [hm,b0,decide_eq_false (show ¬(m:Int)<i by omega)]; simp];have F:=ai13 chAV.eq_1 stAV.eq_1 k0 hs bneA e1 e2 e3 e4 hm b0 p1 p2;repeat (first | refine st ?_ | refine cC f1 ?_ | refine cC f2 ?_ | refine cC f3 ?_ | refine cC f4 ?_)
  exact aR
 obtain⟨q,hq,_⟩:=zal (show m<c.states.length by omega);have p3:=nlt (show m<c.states.length by omega);have fn:=zc0 env q;have hnq:zaU c (m:Int)=zco q:=by unfold zaU; rw [zbd,hq]
 cases p4:zco q
 ·rw [show zaq c i s=false by unfold zaq zaH; rw [hm,b0,hnq,p4]; simp];have F:=ai16 chAV.eq_1 stAV.eq_1 k0 hs bneA e1 e2 e3 e4 hm b0 p1 p2 p3 p4 hq;repeat (first | refine st ?_ | refine cC f1 ?_ | refine cC f2 ?_ | refine cC f3 ?_ | refine cC f4 ?_ | refine cC fn ?_)
  exact aR
 have hpar:zaH c i s=true:=by unfold zaH; rw [hm,b0,hnq,p4]; simp; omega
 have hpp:((s.parent == -1)||zaO c s)=(false||zaO c s):=by rw [hm,b0]
 have fu:=zhj env c s (by omega);have g5:=zbo env c (m:Int) true hn
 have hlen2:(kidsL c m true).length<=1000000:=by
  have:=za4 c m true c.states.length;unfold kidsL;omega
 have g8:=zgg env (kidsL c m true) s.initial hlen2;have hst:zaq c i s=zap c i s:=by unfold zaq; rw [e1,e2,e3,e4,hpar]; simp
 rw [hst];by_cases hk1:s.kind=1
 ·cases e5:(kidsL c i true == [])
  ·rw [show zap c i s=inL (kidsL c i true) s.initial by unfold zap; rw [if_pos hk1,if_neg (by simpa using e5)]];have F:=ai19 chAV.eq_1 stAV.eq_1 k0 hs bneA e1 e2 e3 e4 hm b0 p1 p2 p3 p4 hq hk1 z1 e5;repeat (first | refine st ?_ | refine cC f1 ?_ | refine cC f2 ?_ | refine cC f3 ?_ | refine cC f4 ?_ | refine cC fn ?_ | refine cC f5 ?_ | refine cC f8 ?_)
   exact aR
  ·rw [show zap c i s=(s.initial == -1) by unfold zap; rw [if_pos hk1,if_pos (by simpa using e5)]];have F:=ai19 chAV.eq_1 stAV.eq_1 k0 hs bneA e1 e2 e3 e4 hm b0 p1 p2 p3 p4 hq hk1 z1 e5;repeat (first | refine st ?_ | refine cC f1 ?_ | refine cC f2 ?_ | refine cC f3 ?_ | refine cC f4 ?_ | refine cC fn ?_ | refine cC f5 ?_ | refine cC f8 ?_)
   exact aR
 have b1:=zba hk1;by_cases hk2:s.kind=2
 ·have hr:zap c i s=(((kidsL c i true).all fun k=>zaU c k)&&decide (0< (kidsL c i true).length)&&(s.initial == -1)):=by unfold zap; rw [if_neg hk1,if_pos hk2]
  rw [hr];cases e5:(s.initial == -1)
  ·rw [Bool.and_false];have F:=ai18 chAV.eq_1 stAV.eq_1 k0 hs bneA e1 e2 e3 e4 hm b0 p1 p2 p3 p4 hq hk2 e5;repeat (first | refine st ?_ | refine cC f1 ?_ | refine cC f2 ?_ | refine cC f3 ?_ | refine cC f4 ?_ | refine cC fn ?_ | refine cC f5 ?_ | refine cC f9 ?_)
   exact aR
  ·rw [Bool.and_true];have F:=ai18 chAV.eq_1 stAV.eq_1 k0 hs bneA e1 e2 e3 e4 hm b0 p1 p2 p3 p4 hq hk2 e5;repeat (first | refine st ?_ | refine cC f1 ?_ | refine cC f2 ?_ | refine cC f3 ?_ | refine cC f4 ?_ | refine cC fn ?_ | refine cC f5 ?_ | refine cC f9 ?_)
   exact aR
 have b2:=zba hk2;cases e5:(kidsL c i false == [])
 ·rw [show zap c i s=false by unfold zap; rw [if_neg hk1,if_neg hk2,e5]; simp];have F:=ai20 chAV.eq_1 stAV.eq_1 k0 hs bneA e1 e2 e3 e4 hm b0 p1 p2 p3 p4 hq b1 b2 z2 e5;repeat (first | refine st ?_ | refine cC f1 ?_ | refine cC f2 ?_ | refine cC f3 ?_ | refine cC f4 ?_ | refine cC fn ?_ | refine cC f5 ?_ | refine cC f6 ?_)
  exact aR
 by_cases hk3:s.kind=3
 ·have hr:zap c i s=((kidsL c i false == [])&&((s.parent == -1)||zaO c s)&&(s.initial == -1)&&(s.out == [])):=by unfold zap; rw [if_neg hk1,if_neg hk2,if_pos hk3]
  rw [hr,e5,hpp];cases e6:(s.initial == -1)
  ·rw [Bool.and_false,Bool.false_and];have F:=ai20 chAV.eq_1 stAV.eq_1 k0 hs bneA e1 e2 e3 e4 hm b0 p1 p2 p3 p4 hq hk3 z2 e5 e6;repeat (first | refine st ?_ | refine cC f1 ?_ | refine cC f2 ?_ | refine cC f3 ?_ | refine cC f4 ?_ | refine cC fn ?_ | refine cC f5 ?_ | refine cC f6 ?_ | refine cC fu ?_)
   exact aR
  cases e7:(s.out == [])
  ·rw [Bool.and_false];have F:=ai22 chAV.eq_1 stAV.eq_1 k0 hs bneA e1 e2 e3 e4 hm b0 p1 p2 p3 p4 hq hk3 z2 z3 e5 e6 e7;repeat (first | refine st ?_ | refine cC f1 ?_ | refine cC f2 ?_ | refine cC f3 ?_ | refine cC f4 ?_ | refine cC fn ?_ | refine cC f5 ?_ | refine cC f6 ?_ | refine cC fu ?_)
   exact aR
  rw [Bool.true_and,Bool.and_true,Bool.and_true,Bool.false_or];have F:=ai22 chAV.eq_1 stAV.eq_1 k0 hs bneA e1 e2 e3 e4 hm b0 p1 p2 p3 p4 hq hk3 z2 z3 e5 e6 e7;repeat (first | refine st ?_ | refine cC f1 ?_ | refine cC f2 ?_ | refine cC f3 ?_ | refine cC f4 ?_ | refine cC fn ?_ | refine cC f5 ?_ | refine cC f6 ?_ | refine cC fu ?_)
  exact aR
 have b3:=zba hk3;by_cases hk45:s.kind=4\/s.kind=5
 ·have hr:zap c i s=((kidsL c i false == [])&&zaO c s&&inL (kidsL c s.parent true) s.initial&&(s.inn == [])&&(s.out == [])):=by unfold zap; rw [if_neg hk1,if_neg hk2,if_neg hk3,if_pos hk45]
  have e6:zaI s=true:=by unfold zaI; simpa using hk45
  rw [hr,e5,Bool.true_and];cases e7:zaO c s
  ·rw [Bool.false_and,Bool.false_and,Bool.false_and];have F:=ai23 chAV.eq_1 stAV.eq_1 k0 hs bneA e1 e2 e3 e4 hm b0 p1 p2 p3 p4 hq b1 b2 b3 z2 e5 e6 e7;repeat (first | refine st ?_ | refine cC f1 ?_ | refine cC f2 ?_ | refine cC f3 ?_ | refine cC f4 ?_ | refine cC fn ?_ | refine cC f5 ?_ | refine cC f6 ?_ | refine cC f7 ?_ | refine cC fu ?_)
   exact aR
  rw [hm,Bool.true_and];cases e8:inL (kidsL c m true) s.initial
  ·rw [Bool.false_and,Bool.false_and];have F:=ai24 chAV.eq_1 stAV.eq_1 k0 hs bneA e1 e2 e3 e4 hm b0 p1 p2 p3 p4 hq b1 b2 b3 z2 e5 e6 e7 e8;repeat (first | refine st ?_ | refine cC f1 ?_ | refine cC f2 ?_ | refine cC f3 ?_ | refine cC f4 ?_ | refine cC fn ?_ | refine cC f5 ?_ | refine cC f6 ?_ | refine cC f7 ?_ | refine cC fu ?_ | refine cC g5 ?_ | refine cC g8 ?_)
   exact aR
  cases e9:(s.inn == [])
  ·rw [Bool.and_false,Bool.false_and];have F:=ai26 chAV.eq_1 stAV.eq_1 k0 hs bneA e1 e2 e3 e4 hm b0 p1 p2 p3 p4 hq b1 b2 b3 z2 z4 e5 e6 e7 e8 e9;repeat (first | refine st ?_ | refine cC f1 ?_ | refine cC f2 ?_ | refine cC f3 ?_ | refine cC f4 ?_ | refine cC fn ?_ | refine cC f5 ?_ | refine cC f6 ?_ | refine cC f7 ?_ | refine cC fu ?_ | refine cC g5 ?_ | refine cC g8 ?_)
   exact aR
  rw [Bool.true_and,Bool.true_and];have F:=ai27 chAV.eq_1 stAV.eq_1 k0 hs bneA e1 e2 e3 e4 hm b0 p1 p2 p3 p4 hq b1 b2 b3 z2 z3 z4 e5 e6 e7 e8 e9;repeat (first | refine st ?_ | refine cC f1 ?_ | refine cC f2 ?_ | refine cC f3 ?_ | refine cC f4 ?_ | refine cC fn ?_ | refine cC f5 ?_ | refine cC f6 ?_ | refine cC f7 ?_ | refine cC fu ?_ | refine cC g5 ?_ | refine cC g8 ?_)
  exact aR
 have e6:zaI s=false:=by unfold zaI; simpa using hk45
 rw [show zap c i s=false by unfold zap; rw [if_neg hk1,if_neg hk2,if_neg hk3,if_neg hk45]];have F:=ai22 chAV.eq_1 stAV.eq_1 k0 hs bneA e1 e2 e3 e4 hm b0 p1 p2 p3 p4 hq b1 b2 b3 z2 e5 e6;repeat (first | refine st ?_ | refine cC f1 ?_ | refine cC f2 ?_ | refine cC f3 ?_ | refine cC f4 ?_ | refine cC fn ?_ | refine cC f5 ?_ | refine cC f6 ?_ | refine cC f7 ?_)
 exact aR
end
section
theorem zm7 (env:Env) (c:ChD) (hn:c.states.length<=1000000) (i:Nat) (s:StD) (hs:c.states[i]? =some s):Con prog env 113 [.agg (chAV c),I i] (B (zaq c i s)):=by
 by_cases hp:s.parent= -1
 ·exact zib env c hn i s hs hp
 ·exact zjc env c hn i s hs hp
theorem zoL (env:Env) (c:ChD) (t:TrD):Con prog env 115 [.agg (chAV c), .agg (trAV t)] (B (zck c t)):=by
 have f2:=zbJ env t.event;have f3:=zji env c t.guard;have f4:=zds env c t.acts;have z1:=zbM t.guard;refine qf func115 call115 ntmps115 results115 ?_;by_cases p1:t.src<0
 ·rw [show zck c t=false by unfold zck zaU at_; rw [if_neg (show ¬0<=t.src by omega)]; rfl];have F:=ai3 chAV.eq_1 trAV.eq_1 p1;repeat refine st ?_
  exact aR
 obtain⟨m,hm⟩:=zcB (show 0<=t.src by omega);have p1: ¬(m:Int)<0:=by omega
 by_cases p2:c.states.length<=m
 ·have p2':(c.states.length:Int)<=(m:Int):=by omega
  rw [show zck c t=false by unfold zck zaU; rw [hm,zbd,List.getElem?_eq_none p2]; rfl];have F:=ai5 chAV.eq_1 trAV.eq_1 hm p1 p2';repeat refine st ?_
  exact aR
 have p2': ¬(c.states.length:Int)<=(m:Int):=by omega
 have k0:=nlt (show m<c.states.length by omega);obtain⟨q,hq,_⟩:=zal (show m<c.states.length by omega);have f1:=zc0 env q;have hnq:zaU c t.src=zco q:=by unfold zaU; rw [hm,zbd,hq]
 have hr:zck c t=(zco q&&((t.event == [])||zax t.event)&&((t.guard == [])||zaF t.guard c.vars.length c.states.length)&&zbq c.vars.length c.states.length t.acts&&((t.target == -1)||(decide (0<=t.target)&&decide (t.target<c.states.length)))):=by unfold zck; rw [hnq]
 rw [hr];cases e1:zco q
 ·rw [Bool.false_and,Bool.false_and,Bool.false_and,Bool.false_and];have F:=ai9 chAV.eq_1 trAV.eq_1 stAV.eq_1 hm hq p1 p2' k0 e1;repeat (first | refine st ?_ | refine cC f1 ?_)
  exact aR
 by_cases p3:t.target< -1
 ·rw [show ((t.target == -1)||(decide (0<=t.target)&&decide (t.target<c.states.length)))=false by rw [zba (show t.target≠ -1 by omega),decide_eq_false (show ¬0<=t.target by omega)]; rfl,Bool.and_false];have F:=ai10 chAV.eq_1 trAV.eq_1 stAV.eq_1 hm hq p1 p2' k0 e1 p3;repeat (first | refine st ?_ | refine cC f1 ?_)
  exact aR
 by_cases p4:(c.states.length:Int)<=t.target
 ·rw [show ((t.target == -1)||(decide (0<=t.target)&&decide (t.target<c.states.length)))=false by rw [zba (show t.target≠ -1 by omega),decide_eq_false (show ¬t.target<c.states.length by omega)]; simp,Bool.and_false];have F:=ai11 chAV.eq_1 trAV.eq_1 stAV.eq_1 hm hq p1 p2' k0 e1 p3 p4;repeat (first | refine st ?_ | refine cC f1 ?_)
  exact aR
 rw [show ((t.target == -1)||(decide (0<=t.target)&&decide (t.target<c.states.length)))=true by rw [Bool.or_eq_true,Bool.and_eq_true]; simp; omega,Bool.and_true,Bool.true_and];cases e2:(t.event == [])
 ·rw [Bool.false_or];cases e3:zax t.event
  ·rw [Bool.false_and,Bool.false_and];have F:=ai13 chAV.eq_1 trAV.eq_1 stAV.eq_1 hm hq p1 p2' k0 e1 p3 p4 e2 e3;repeat (first | refine st ?_ | refine cC f1 ?_ | refine cC f2 ?_)
   exact aR
  rw [Bool.true_and];cases e4:(t.guard == [])
  ·rw [Bool.false_or];cases e5:zaF t.guard c.vars.length c.states.length
   ·rw [Bool.false_and];have F:=ai16 chAV.eq_1 trAV.eq_1 stAV.eq_1 hm hq p1 p2' k0 e1 p3 p4 e2 e3 z1 e4 e5;repeat (first | refine st ?_ | refine cC f1 ?_ | refine cC f2 ?_ | refine cC f3 ?_ | refine cC f4 ?_)
    exact aR
   ·rw [Bool.true_and];have F:=ai16 chAV.eq_1 trAV.eq_1 stAV.eq_1 hm hq p1 p2' k0 e1 p3 p4 e2 e3 z1 e4 e5;repeat (first | refine st ?_ | refine cC f1 ?_ | refine cC f2 ?_ | refine cC f3 ?_ | refine cC f4 ?_)
    exact aR
  ·rw [Bool.true_or,Bool.true_and];have F:=ai15 chAV.eq_1 trAV.eq_1 stAV.eq_1 hm hq p1 p2' k0 e1 p3 p4 e2 e3 z1 e4;repeat (first | refine st ?_ | refine cC f1 ?_ | refine cC f2 ?_ | refine cC f3 ?_ | refine cC f4 ?_)
   exact aR
 rw [Bool.true_or,Bool.true_and];cases e4:(t.guard == [])
 ·rw [Bool.false_or];cases e5:zaF t.guard c.vars.length c.states.length
  ·rw [Bool.false_and];have F:=ai15 chAV.eq_1 trAV.eq_1 stAV.eq_1 hm hq p1 p2' k0 e1 p3 p4 e2 z1 e4 e5;repeat (first | refine st ?_ | refine cC f1 ?_ | refine cC f2 ?_ | refine cC f3 ?_ | refine cC f4 ?_)
   exact aR
  ·rw [Bool.true_and];have F:=ai15 chAV.eq_1 trAV.eq_1 stAV.eq_1 hm hq p1 p2' k0 e1 p3 p4 e2 z1 e4 e5;repeat (first | refine st ?_ | refine cC f1 ?_ | refine cC f2 ?_ | refine cC f3 ?_ | refine cC f4 ?_)
   exact aR
 ·rw [Bool.true_or,Bool.true_and];have F:=ai14 chAV.eq_1 trAV.eq_1 stAV.eq_1 hm hq p1 p2' k0 e1 p3 p4 e2 z1 e4;repeat (first | refine st ?_ | refine cC f1 ?_ | refine cC f2 ?_ | refine cC f3 ?_ | refine cC f4 ?_)
  exact aR
abbrev chkT (c:ChD):AV:= .tuple [I (chk c).1,I (chk c).2]
theorem zbQ {c:ChD} {x:Int×Int} (h:chk c=x):chkT c= .tuple [I x.1,I x.2]:=by unfold chkT; rw [h]
theorem znb (env:Env) (c:ChD):Con prog env 61 [.agg (chAV c)] (chkT c):=by
 have fname:=zbJ env c.name;have z1:=zbM c.states;refine qf func61 call61 ntmps61 results61 ?_;by_cases l1:32<c.states.length
 ·have k1:(32:Int)< (c.states.length:Int):=by omega
  rw [zbQ (show chk c=(8, -1) by unfold chk; rw [if_pos (.inl l1)])];have F:=ai chAV.eq_1 k1;repeat refine st ?_
  exact aR
 have k1: ¬(32:Int)< (c.states.length:Int):=by omega
 by_cases l2:64<c.trans.length
 ·have k2:(64:Int)< (c.trans.length:Int):=by omega
  rw [zbQ (show chk c=(8, -1) by unfold chk; rw [if_pos (.inr (.inl l2))])];have F:=ai3 chAV.eq_1 k1 k2;repeat refine st ?_
  exact aR
 have k2: ¬(64:Int)< (c.trans.length:Int):=by omega
 by_cases l3:8<c.vars.length
 ·have k3:(8:Int)< (c.vars.length:Int):=by omega
  rw [zbQ (show chk c=(8, -1) by unfold chk; rw [if_pos (.inr (.inr l3))])];have F:=ai4 chAV.eq_1 k1 k2 k3;repeat refine st ?_
  exact aR
 have k3: ¬(8:Int)< (c.vars.length:Int):=by omega
 have hl: ¬(32<c.states.length\/64<c.trans.length\/8<c.vars.length):=by omega
 cases e2:(c.states == [])
 case true=>
  rw [zbQ (show chk c=(1, -1) by unfold chk; rw [if_neg hl,if_pos (.inl (by simpa using e2))])];have F:=ai6 chAV.eq_1 k1 k2 k3 z1 e2;repeat (first | refine st ?_ | refine cC fname ?_)
  exact aR
 cases e1:zax c.name
 ·rw [zbQ (show chk c=(1, -1) by unfold chk; rw [if_neg hl,if_pos (.inr e1)])];have F:=ai7 chAV.eq_1 k1 k2 k3 z1 e2 e1;repeat (first | refine st ?_ | refine cC fname ?_)
  exact aR
 have hne: ¬(c.states=[]\/zax c.name=false):=by
  rw [e1];simpa using e2
 have hc1:chk c=(match zaD (zd0 c) c.vars.length with
  | some i=>(1,2000+(i:Int))
  | none=>match zaD (zfy c) c.states.length with
    | some i=>(1,(i:Int))
    | none=>if topB c=false then(1, -1) else match zaD (ziG c) c.trans.length with
      | some i=>(1,1000+(i:Int))
      | none=>(0, -1)):=by
  unfold chk;rw [if_neg hl,if_neg hne];rfl
 have F:=ai7 chAV.eq_1 k1 k2 k3 z1 e2 e1;repeat (first | refine st ?_ | refine cC fname ?_)
 refine zab (D:=Nat) (fun i vs=>[(1, .loc 1 (vs 1) 0 0),(4,I i)]) (fun _ _=>[(1,⟨5,[chAV c],26,false⟩)]) (fun i _ _=>i<=c.vars.length/\ ∀j,j<i->zd0 c j=true) (fun i=>c.vars.length-i) 0 ?_ ?_ ?_ ?_
 ·exact⟨Nat.zero_le _,fun j hj=>by omega⟩
 ·exact qe
 ·have F:=chAV.eq_1;exact qe
 rintro i ws esc ⟨hi,hall⟩;by_cases hlt:i<c.vars.length
 ·obtain⟨v,hv,_⟩:=zal hlt;have q1:=nlt hlt;have q2:=zaa hlt (by omega);have hcon:=zqZ env c (by omega) i v hv;cases e:varB c i v
  ·have q3:IntKind.i64.wrap (2000+(i:Int))=2000+(i:Int):=zaw (by omega) (by omega);rw [zbQ (show chk c=(1,2000+(i:Int)) by rw [hc1,zbt hlt hall (by rw [zeM hv]; exact e)])];have F:=ai5 chAV.eq_1 q1 q2 q3 e;repeat (first | refine st ?_ | refine cC hcon ?_)
   exact aR
  ·have F:=ai4 chAV.eq_1 q1 q2 e;repeat (first | refine st ?_ | refine cC hcon ?_)
   refine⟨i+1,⟨hlt,zcI hall (by rw [zeM hv]; exact e)⟩, ?_, ?_, ?_⟩
   ·exact qe
   ·have F:=chAV.eq_1;exact qe
   ·omega
 have q1: ¬(i:Int)< (c.vars.length:Int):=by omega
 have hvn:zaD (zd0 c) c.vars.length=none:=zaC fun j hj=>hall j (by omega);rw [hvn] at hc1;have F:=ai chAV.eq_1 q1;repeat refine st ?_
 refine zab (D:=Nat) (fun i vs=>[(1, .loc 1 (vs 1) 0 0),(5,I i)]) (fun _ _=>[(1,⟨5,[chAV c],26,false⟩)]) (fun i _ _=>i<=c.states.length/\ ∀j,j<i->zfy c j=true) (fun i=>c.states.length-i) 0 ?_ ?_ ?_ ?_
 ·exact⟨Nat.zero_le _,fun j hj=>by omega⟩
 ·exact qe
 ·have F:=chAV.eq_1;exact qe
 try clear ws esc hi hall q1 hlt i
 rintro i ws esc ⟨hi,hall⟩;by_cases hlt:i<c.states.length
 ·obtain⟨s,hs,_⟩:=zal hlt;have q1:=nlt hlt;have q2:=zaa hlt (by omega);have hcon:=zm7 env c (by omega) i s hs;cases e:zaq c i s
  ·rw [zbQ (show chk c=(1,(i:Int)) by rw [hc1,zbt hlt hall (by rw [zfK hs]; exact e)])];have F:=ai4 chAV.eq_1 q1 q2 e;repeat (first | refine st ?_ | refine cC hcon ?_)
   exact aR
  ·have F:=ai4 chAV.eq_1 q1 q2 e;repeat (first | refine st ?_ | refine cC hcon ?_)
   refine⟨i+1,⟨hlt,zcI hall (by rw [zfK hs]; exact e)⟩, ?_, ?_, ?_⟩
   ·exact qe
   ·have F:=chAV.eq_1;exact qe
   ·omega
 have q1: ¬(i:Int)< (c.states.length:Int):=by omega
 have hsn:zaD (zfy c) c.states.length=none:=zaC fun j hj=>hall j (by omega);rw [hsn] at hc1;by_cases p1:c.initial<0
 ·have ht:topB c=false:=by unfold topB at_; rw [if_neg (by omega)]
  rw [zbQ (show chk c=(1, -1) by rw [hc1,if_pos ht])];have F:=ai3 chAV.eq_1 q1 p1;repeat refine st ?_
  exact aR
 obtain⟨m,hm⟩:=zcB (show 0<=c.initial by omega);have p1': ¬(m:Int)<0:=by omega
 by_cases p2:(c.states.length:Int)<=(m:Int)
 ·have ht:topB c=false:=by unfold topB; rw [hm,zbd,List.getElem?_eq_none (by omega)]
  rw [zbQ (show chk c=(1, -1) by rw [hc1,if_pos ht])];have F:=ai5 chAV.eq_1 q1 hm p1' p2;repeat refine st ?_
  exact aR
 have p3:=nlt (show m<c.states.length by omega);obtain⟨q,hq,_⟩:=zal (show m<c.states.length by omega);have fnorm:=zc0 env q;have htop:topB c=((q.parent == -1)&&zco q):=by unfold topB; rw [hm,zbd,hq]
 cases e3:(q.parent == -1)
 ·rw [zbQ (show chk c=(1, -1) by rw [hc1,if_pos (by rw [htop,e3]; rfl)])];have F:=ai10 chAV.eq_1 stAV.eq_1 q1 hm p1' p2 p3 hq e3 bneA;repeat (first | refine st ?_ | refine cC fnorm ?_)
  exact aR
 cases e4:zco q
 ·rw [zbQ (show chk c=(1, -1) by rw [hc1,if_pos (by rw [htop,e3,e4]; rfl)])];have F:=ai11 chAV.eq_1 stAV.eq_1 q1 hm p1' p2 p3 hq e3 e4 bneA;repeat (first | refine st ?_ | refine cC fnorm ?_)
  exact aR
 rw [if_neg (by rw [htop,e3,e4]; simp)] at hc1;have F:=ai11 chAV.eq_1 stAV.eq_1 q1 hm p1' p2 p3 hq e3 e4 bneA;repeat (first | refine st ?_ | refine cC fnorm ?_)
 refine zab (D:=Nat) (fun i vs=>[(1, .loc 1 (vs 1) 0 0),(6,I i)]) (fun _ _=>[(1,⟨5,[chAV c],26,false⟩)]) (fun i _ _=>i<=c.trans.length/\ ∀j,j<i->ziG c j=true) (fun i=>c.trans.length-i) 0 ?_ ?_ ?_ ?_
 ·exact⟨Nat.zero_le _,fun j hj=>by omega⟩
 ·have F:=ai chAV.eq_1 hm;exact qe
 ·have F:=ai chAV.eq_1 hm;exact qe
 try clear ws esc hi hall q1 hlt i
 rintro i ws esc ⟨hi,hall⟩;by_cases hlt:i<c.trans.length
 ·obtain⟨t,ht,_⟩:=zal hlt;have q1:=nlt hlt;have q2:=zaa hlt (by omega);have hcon:=zoL env c t;cases e:zck c t
  ·have q3:IntKind.i64.wrap (1000+(i:Int))=1000+(i:Int):=zaw (by omega) (by omega);rw [zbQ (show chk c=(1,1000+(i:Int)) by rw [hc1,zbt hlt hall (by rw [zfJ ht]; exact e)])];have F:=ai7 chAV.eq_1 trAV.eq_1 q1 q2 q3 ht e;repeat (first | refine st ?_ | refine cC hcon ?_)
   exact aR
  ·have F:=ai6 chAV.eq_1 trAV.eq_1 q1 q2 ht e;repeat (first | refine st ?_ | refine cC hcon ?_)
   refine⟨i+1,⟨hlt,zcI hall (by rw [zfJ ht]; exact e)⟩, ?_, ?_, ?_⟩
   ·exact qe
   ·have F:=chAV.eq_1;exact qe
   ·omega
 have q1: ¬(i:Int)< (c.trans.length:Int):=by omega
 rw [zbQ (show chk c=(0, -1) by rw [hc1,zaC fun j hj=>hall j (by omega)])];have F:=ai chAV.eq_1 q1;repeat refine st ?_
 exact aR
end

end Go.Proofs.YtbpmkofnfgdegaaGreatDoor