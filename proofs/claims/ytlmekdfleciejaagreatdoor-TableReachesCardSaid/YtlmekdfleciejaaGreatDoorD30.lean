/- Contracts of the document's checks of charts (scriniumref24): by the walk without memory. -/
import Derived.Test.YtlmekdfleciejaaGreatDoorD22
import Derived.Test.YtlmekdfleciejaaGreatDoorD5
import Derived.Test.YtlmekdfleciejaaGreatDoorD7
set_option maxRecDepth 100000
set_option maxHeartbeats 8000000
set_option linter.unusedSimpArgs false
namespace Go.Proofs.YtlmekdfleciejaaGreatDoor
open Go.RowKit
theorem ziB (env:Env) (c:ChD) (l:List OpD):Con Tryz.prog env 148 [.agg (chAV c),opsAV l] (B (zaK l c.vars.length c.states.length)):=by
 have hx:=zgJ env l c.vars.length c.states.length
 unfold zaK
 refine zaa Tryz.func148 rfl Tryz.call148 (by rw [Tryz.ntmps148]; simp) ?_
 rw [Tryz.ntmps148,Tryz.results148]
 have F:=chAV.eq_1
 repeat (first | refine st ?_ | refine cC hx ?_)
 exact aR
theorem ziH {m:List UInt8} (h:zaA m=true):(m == [])=false:=by
 cases m with
 | nil=>cases h
 | cons a l=>rfl
theorem zpa (env:Env) (c:ChD) (a:ActD):Con Tryz.prog env 186 [.agg (chAV c), .agg (zaw a)] (B (actB c.vars.length c.states.length a)):=by
 obtain⟨k,n,m,co⟩:=a
 have hcode:=ziB env c co
 have hname:=zb7 env m
 have hco:((co.length:Int)==0)=(co == []):=by
  rw [Bool.eq_iff_iff]
  simp
 refine zaa Tryz.func186 rfl Tryz.call186 (by rw [Tryz.ntmps186]; simp) ?_
 rw [Tryz.ntmps186,Tryz.results186]
 by_cases hk1:k=1
 ·subst hk1
  have hr:actB c.vars.length c.states.length ⟨1,n,m,co⟩=(decide (0<=n/\n<c.vars.length)&&(m == [])&&zaK co c.vars.length c.states.length):=rfl
  rw [hr]
  cases e1:zaA m
  case true=>
   have e2:=ziH e1
   rw [e2,show ((decide (0<=n/\n<c.vars.length)&&false&&zaK co c.vars.length c.states.length))=false by simp]
   have F:=ai chAV.eq_1<|ai zaw.eq_1<|ai e1<|ai e2<|ai bneA<|ai @Bool.true_beq<|@Bool.false_beq
   repeat (first | refine st ?_ | refine cC hcode ?_ | refine cC hname ?_)
   exact aR
  cases e2:(m == [])
  ·rw [show ((decide (0<=n/\n<c.vars.length)&&false&&zaK co c.vars.length c.states.length))=false by simp]
   have F:=ai chAV.eq_1<|ai zaw.eq_1<|ai e1<|ai e2<|ai bneA<|ai @Bool.true_beq<|@Bool.false_beq
   repeat (first | refine st ?_ | refine cC hcode ?_ | refine cC hname ?_)
   exact aR
  by_cases h1:0<=n
  ·by_cases h2:n< (c.vars.length:Int)
   ·rw [show (decide (0<=n/\n<c.vars.length)&&true&&zaK co c.vars.length c.states.length)=zaK co c.vars.length c.states.length by simp [h1,h2]]
    have F:=ai chAV.eq_1<|ai zaw.eq_1<|ai e1<|ai e2<|ai h1<|ai h2<|ai bneA<|ai @Bool.true_beq<|@Bool.false_beq
    repeat (first | refine st ?_ | refine cC hcode ?_ | refine cC hname ?_)
    exact aR
   ·rw [show (decide (0<=n/\n<c.vars.length)&&true&&zaK co c.vars.length c.states.length)=false by simp [h2]]
    have F:=ai chAV.eq_1<|ai zaw.eq_1<|ai e1<|ai e2<|ai h1<|ai h2<|ai bneA<|ai @Bool.true_beq<|@Bool.false_beq
    repeat (first | refine st ?_ | refine cC hcode ?_ | refine cC hname ?_)
    exact aR
  ·rw [show (decide (0<=n/\n<c.vars.length)&&true&&zaK co c.vars.length c.states.length)=false by simp [h1]]
   have F:=ai chAV.eq_1<|ai zaw.eq_1<|ai e1<|ai e2<|ai h1<|ai bneA<|ai @Bool.true_beq<|@Bool.false_beq
   repeat (first | refine st ?_ | refine cC hcode ?_ | refine cC hname ?_)
   exact aR
 by_cases hk3:k=3
 ·subst hk3
  have hr:actB c.vars.length c.states.length ⟨3,n,m,co⟩=((n==0)&&(m == [])&&zaK co c.vars.length c.states.length):=rfl
  rw [hr]
  cases e1:zaA m
  case true=>
   have e2:=ziH e1
   rw [e2,show (((n==0)&&false&&zaK co c.vars.length c.states.length))=false by simp]
   have F:=ai chAV.eq_1<|ai zaw.eq_1<|ai e1<|ai e2<|ai bneA<|ai @Bool.true_beq<|@Bool.false_beq
   repeat (first | refine st ?_ | refine cC hcode ?_ | refine cC hname ?_)
   exact aR
  cases e2:(m == [])
  ·rw [show (((n==0)&&false&&zaK co c.vars.length c.states.length))=false by simp]
   have F:=ai chAV.eq_1<|ai zaw.eq_1<|ai e1<|ai e2<|ai bneA<|ai @Bool.true_beq<|@Bool.false_beq
   repeat (first | refine st ?_ | refine cC hcode ?_ | refine cC hname ?_)
   exact aR
  cases e3:(n==0)
  ·rw [show (false&&true&&zaK co c.vars.length c.states.length)=false from rfl]
   have F:=ai chAV.eq_1<|ai zaw.eq_1<|ai e1<|ai e2<|ai e3<|ai bneA<|ai @Bool.true_beq<|@Bool.false_beq
   repeat (first | refine st ?_ | refine cC hcode ?_ | refine cC hname ?_)
   exact aR
  ·rw [show (true&&true&&zaK co c.vars.length c.states.length)=zaK co c.vars.length c.states.length by simp]
   have F:=ai chAV.eq_1<|ai zaw.eq_1<|ai e1<|ai e2<|ai e3<|ai bneA<|ai @Bool.true_beq<|@Bool.false_beq
   repeat (first | refine st ?_ | refine cC hcode ?_ | refine cC hname ?_)
   exact aR
 by_cases hk2:k=2
 ·subst hk2
  have hr:actB c.vars.length c.states.length ⟨2,n,m,co⟩=((n==0)&&zaA m&&zaK co c.vars.length c.states.length):=rfl
  rw [hr]
  cases e1:zaA m
  ·rw [Bool.and_false,Bool.false_and]
   have F:=ai chAV.eq_1<|ai zaw.eq_1<|ai e1<|ai bneA<|ai @Bool.true_beq<|@Bool.false_beq
   repeat (first | refine st ?_ | refine cC hcode ?_ | refine cC hname ?_)
   exact aR
  cases e3:(n==0)
  ·rw [Bool.false_and,Bool.false_and]
   have F:=ai chAV.eq_1<|ai zaw.eq_1<|ai e1<|ai e3<|ai bneA<|ai @Bool.true_beq<|@Bool.false_beq
   repeat (first | refine st ?_ | refine cC hcode ?_ | refine cC hname ?_)
   exact aR
  ·rw [Bool.true_and,Bool.true_and]
   have F:=ai chAV.eq_1<|ai zaw.eq_1<|ai e1<|ai e3<|ai bneA<|ai @Bool.true_beq<|@Bool.false_beq
   repeat (first | refine st ?_ | refine cC hcode ?_ | refine cC hname ?_)
   exact aR
 by_cases hk4:k=4
 ·subst hk4
  have hr:actB c.vars.length c.states.length ⟨4,n,m,co⟩=((n==0)&&zaA m&&zaK co c.vars.length c.states.length):=rfl
  rw [hr]
  cases e1:zaA m
  ·rw [Bool.and_false,Bool.false_and]
   have F:=ai chAV.eq_1<|ai zaw.eq_1<|ai e1<|ai bneA<|ai @Bool.true_beq<|@Bool.false_beq
   repeat (first | refine st ?_ | refine cC hcode ?_ | refine cC hname ?_)
   exact aR
  cases e3:(n==0)
  ·rw [Bool.false_and,Bool.false_and]
   have F:=ai chAV.eq_1<|ai zaw.eq_1<|ai e1<|ai e3<|ai bneA<|ai @Bool.true_beq<|@Bool.false_beq
   repeat (first | refine st ?_ | refine cC hcode ?_ | refine cC hname ?_)
   exact aR
  ·rw [Bool.true_and,Bool.true_and]
   have F:=ai chAV.eq_1<|ai zaw.eq_1<|ai e1<|ai e3<|ai bneA<|ai @Bool.true_beq<|@Bool.false_beq
   repeat (first | refine st ?_ | refine cC hcode ?_ | refine cC hname ?_)
   exact aR
 by_cases hk5:k=5
 ·subst hk5
  have hr:actB c.vars.length c.states.length ⟨5,n,m,co⟩=((n==0)&&zaA m&&(co == [])):=rfl
  rw [hr]
  cases e1:zaA m
  ·rw [Bool.and_false,Bool.false_and]
   have F:=ai chAV.eq_1<|ai zaw.eq_1<|ai e1<|ai bneA<|ai @Bool.true_beq<|@Bool.false_beq
   repeat (first | refine st ?_ | refine cC hcode ?_ | refine cC hname ?_)
   exact aR
  cases e3:(n==0)
  ·rw [Bool.false_and,Bool.false_and]
   have F:=ai chAV.eq_1<|ai zaw.eq_1<|ai e1<|ai e3<|ai bneA<|ai @Bool.true_beq<|@Bool.false_beq
   repeat (first | refine st ?_ | refine cC hcode ?_ | refine cC hname ?_)
   exact aR
  ·rw [Bool.true_and,Bool.true_and]
   have F:=ai chAV.eq_1<|ai zaw.eq_1<|ai e1<|ai e3<|ai hco<|ai bneA<|ai @Bool.true_beq<|@Bool.false_beq
   repeat (first | refine st ?_ | refine cC hcode ?_ | refine cC hname ?_)
   exact aR
 have hr:actB c.vars.length c.states.length ⟨k,n,m,co⟩=false:=by unfold actB; rw [if_neg hk1,if_neg (fun h=>h.elim hk2 hk4),if_neg hk3,if_neg hk5]
 have b2:=za3 hk2
 have b4:=za3 hk4
 have b5:=za3 hk5
 rw [hr]
 by_cases h1:k<1
 ·have F:=ai chAV.eq_1<|ai zaw.eq_1<|ai h1<|ai b2<|ai b4<|ai b5<|ai bneA<|ai @Bool.true_beq<|@Bool.false_beq
  repeat (first | refine st ?_ | refine cC hcode ?_ | refine cC hname ?_)
  exact aR
 have h2:5<k:=by omega
 have F:=ai chAV.eq_1<|ai zaw.eq_1<|ai h1<|ai h2<|ai b2<|ai b4<|ai b5<|ai bneA<|ai @Bool.true_beq<|@Bool.false_beq
 repeat (first | refine st ?_ | refine cC hcode ?_ | refine cC hname ?_)
 exact aR
theorem zdg (env:Env) (c:ChD) (l:List ActD):Con Tryz.prog env 145 [.agg (chAV c),actsAV l] (B (zbE c.vars.length c.states.length l)):=by
 refine zaa Tryz.func145 rfl Tryz.call145 (by rw [Tryz.ntmps145]; simp) ?_
 rw [Tryz.ntmps145,Tryz.results145]
 by_cases hlen:32<l.length
 ·have k0:(32:Int)< (l.length:Int):=by omega
  rw [show zbE c.vars.length c.states.length l=false by unfold zbE; rw [decide_eq_false (by omega)]; rfl]
  have F:=ai chAV.eq_1<|k0
  repeat refine st ?_
  exact aR
 have k0: ¬(32:Int)< (l.length:Int):=by omega
 rw [show zbE c.vars.length c.states.length l=l.all (actB c.vars.length c.states.length) by unfold zbE; rw [decide_eq_true (by omega)]; rfl]
 have F:=ai chAV.eq_1<|k0
 repeat refine st ?_
 refine zab (D:=Nat) (fun k vs=>[(1,actsAV l),(2, .loc 2 (vs 2) 0 0),(5,I k)]) (fun _ _=>[(2,⟨5,[chAV c],26,false⟩)]) (fun k _ _=>k<=l.length/\(l.take k).all (actB c.vars.length c.states.length)=true) (fun k=>l.length-k) 0 ?_ ?_ ?_ ?_
 ·exact⟨Nat.zero_le _,rfl⟩
 ·(simp only [go_sem,F])
 ·(simp only [go_sem,F])
 rintro k ws esc ⟨hk,hall⟩
 by_cases hlt:k<l.length
 ·obtain⟨a,hx,hm⟩:=zam hlt
  have k1:=nlt hlt
  have k2:=zac hlt (by omega)
  have hact:=zpa env c a
  cases h1:actB c.vars.length c.states.length a with
  | true=>
    have F:=ai chAV.eq_1<|ai k1<|ai k2<|ai hx<|ai zaw.eq_1<|h1
    repeat (first | refine st ?_ | refine cC hact ?_)
    refine⟨k+1,⟨hlt,zbC hall hx h1⟩, ?_, ?_, ?_⟩
    ·(simp only [go_sem,F])
    ·(simp only [go_sem,F])
    ·omega
  | false=>
    rw [ze6 hx h1]
    have F:=ai chAV.eq_1<|ai k1<|ai k2<|ai hx<|ai zaw.eq_1<|h1
    repeat (first | refine st ?_ | refine cC hact ?_)
    exact aR
 ·have k1: ¬(k:Int)< (l.length:Int):=by omega
  rw [zib hall (by omega)]
  have F:=ai chAV.eq_1<|k1
  repeat refine st ?_
  exact aR
theorem zgU (env:Env) (c:ChD) (s:StD) (hp:s.parent<c.states.length):Con Tryz.prog env 147 [.agg (chAV c), .agg (stAV s)] (B (zaB c s)):=by
 refine zaa Tryz.func147 rfl Tryz.call147 (by rw [Tryz.ntmps147]; simp) ?_
 rw [Tryz.ntmps147,Tryz.results147]
 by_cases h1:0<=s.parent
 ·obtain⟨m,hm⟩:=zdU h1
  obtain⟨q,hq,_⟩:=zam (show m<c.states.length by omega)
  have k1:=nlt (show m<c.states.length by omega)
  rw [show zaB c s=(q.kind==1) by unfold zaB; rw [hm,zbp,hq]]
  have F:=ai chAV.eq_1<|ai stAV.eq_1<|ai hm<|ai hq<|k1
  repeat refine st ?_
  exact aR
 ·rw [show zaB c s=false by unfold zaB at_; rw [if_neg h1]]
  have F:=ai chAV.eq_1<|ai stAV.eq_1<|h1
  repeat refine st ?_
  exact aR
theorem zfd (env:Env) (c:ChD) (l:List Nat) (hl:l.length<=1000000) (hk: ∀k∈l,k<c.states.length):Con Tryz.prog env 146 [.agg (chAV c),nsAV l] (B ((l.all fun k=>zar c k)&&decide (0<l.length))):=by
 refine zaa Tryz.func146 rfl Tryz.call146 (by rw [Tryz.ntmps146]; simp) ?_
 rw [Tryz.ntmps146,Tryz.results146]
 have F:=chAV.eq_1
 repeat refine st ?_
 refine zab (D:=Nat) (fun k vs=>[(1,nsAV l),(2, .loc 2 (vs 2) 0 0),(5,I k)]) (fun _ _=>[(2,⟨5,[chAV c],26,false⟩)]) (fun k _ _=>k<=l.length/\(l.take k).all (fun k=>zar c k)=true) (fun k=>l.length-k) 0 ?_ ?_ ?_ ?_
 ·exact⟨Nat.zero_le _,rfl⟩
 ·(simp only [go_sem,F])
 ·(simp only [go_sem,F])
 rintro j ws esc ⟨hj,hall⟩
 by_cases hlt:j<l.length
 ·obtain⟨k,hx,hm⟩:=zam hlt
  obtain⟨q,hq,_⟩:=zam (hk k hm)
  have k1:=nlt hlt
  have k2:=zac hlt (by omega)
  have k3:=nlt (hk k hm)
  have hn:=zcQ env q
  have hnq:zar c (k:Int)=zbV q:=by unfold zar; rw [zbp,hq]
  cases h1:zbV q with
  | true=>
    have F:=ai chAV.eq_1<|ai k1<|ai k2<|ai k3<|ai hx<|ai hq<|ai zae.eq_1<|ai stAV.eq_1<|h1
    repeat (first | refine st ?_ | refine cC hn ?_)
    refine⟨j+1,⟨hlt,zbC (p:=fun k:Nat=>zar c k) hall hx (hnq.trans h1)⟩, ?_, ?_, ?_⟩
    ·(simp only [go_sem,F])
    ·(simp only [go_sem,F])
    ·omega
  | false=>
    rw [ze6 (p:=fun k:Nat=>zar c k) hx (hnq.trans h1),Bool.false_and]
    have F:=ai chAV.eq_1<|ai k1<|ai k2<|ai k3<|ai hx<|ai hq<|ai zae.eq_1<|ai stAV.eq_1<|h1
    repeat (first | refine st ?_ | refine cC hn ?_)
    exact aR
 ·have k1: ¬(j:Int)< (l.length:Int):=by omega
  rw [zib hall (by omega),Bool.true_and]
  have h3:decide ((0:Int)< (l.length:Int))=decide (0<l.length):=by rw [Bool.eq_iff_iff]; simp
  have F:=ai chAV.eq_1<|k1
  repeat refine st ?_
  (refine zak ?_; show (zaz _ _ _).run _=some _; simp only [go_sem,F])
  exact congrArg B h3
theorem zo9 (env:Env) (c:ChD) (hn:c.vars.length<=1000000) (i:Nat) (v:VarD) (hv:c.vars[i]? =some v):Con Tryz.prog env 93 [.agg (chAV c),I i] (B (varB c i v)):=by
 have hi:i<c.vars.length:=(List.getElem?_eq_some_iff.1 hv).1
 have k0:=nlt hi
 have f1:=zb7 env v.name
 have f2:=zni env v.start
 refine zaa Tryz.func93 rfl Tryz.call93 (by rw [Tryz.ntmps93]; simp) ?_
 rw [Tryz.ntmps93,Tryz.results93]
 have F:=ai chAV.eq_1<|ai k0<|ai hv<|zcp.eq_1
 repeat refine st ?_
 refine zab (D:=Nat) (fun j vs=>[(1,I i),(2, .loc 2 (vs 2) 0 0),(5, .loc 5 (vs 5) 0 0),(6,I j)]) (fun _ _=>[(2,⟨5,[chAV c],26,false⟩),(5,⟨2,[zcp v],108,false⟩)]) (fun j _ _=>j<=i/\newVar c v.name j=true) (fun j=>i-j) 0 ?_ ?_ ?_ ?_
 ·exact⟨Nat.zero_le _,rfl⟩
 ·(simp only [go_sem,F])
 ·(simp only [go_sem,F])
 rintro j ws esc ⟨hj,hall⟩
 by_cases hlt:j<i
 ·obtain⟨x,hx,_⟩:=zam (show j<c.vars.length by omega)
  have hx':(c.vars.take i)[j]? =some x:=by rw [List.getElem?_take,if_pos hlt]; exact hx
  have k1:=nlt hlt
  have k3:=nlt (show j<c.vars.length by omega)
  have k2:=zac hlt (by omega)
  cases e:(x.name==v.name)
  ·have F:=ai chAV.eq_1<|ai k1<|ai k2<|ai k3<|ai hx<|ai zcp.eq_1<|e
   repeat refine st ?_
   refine⟨j+1,⟨hlt,zgb hall hx e⟩, ?_, ?_, ?_⟩
   ·(simp only [go_sem,F])
   ·(simp only [go_sem,F])
   ·omega
  ·rw [show varB c i v=false by unfold varB newVar; rw [ze6 (p:=fun x:VarD=> !(x.name==v.name)) hx' (by rw [e]; rfl)]; rfl]
   have F:=ai chAV.eq_1<|ai k1<|ai k2<|ai k3<|ai hx<|ai zcp.eq_1<|e
   repeat refine st ?_
   exact aR
 ·have k1: ¬(j:Int)< (i:Int):=by omega
  obtain rfl:j=i:=by omega
  have hr:varB c j v=(zaA v.name&& !(v.name == [100,97,116,97])&& !(v.name == [105,110])&&zjc v.start):=by
   unfold varB zjc
   rw [hall]
   simp only [Bool.true_and,Bool.and_assoc]
  rw [hr]
  cases e1:zaA v.name
  ·have F:=ai k1<|ai zcp.eq_1<|ai e1<|bneA
   repeat (first | refine st ?_ | refine cC f1 ?_ | refine cC f2 ?_)
   exact aR
  cases e2:(v.name == [100,97,116,97])
  ·cases e3:(v.name == [105,110])
   ·have F:=ai k1<|ai zcp.eq_1<|ai e1<|ai e2<|ai e3<|bneA
    repeat (first | refine st ?_ | refine cC f1 ?_ | refine cC f2 ?_)
    exact aR
   ·have F:=ai k1<|ai zcp.eq_1<|ai e1<|ai e2<|ai e3<|bneA
    repeat (first | refine st ?_ | refine cC f1 ?_ | refine cC f2 ?_)
    exact aR
  ·have F:=ai k1<|ai zcp.eq_1<|ai e1<|ai e2<|bneA
   repeat (first | refine st ?_ | refine cC f1 ?_ | refine cC f2 ?_)
   exact aR
end Go.Proofs.YtlmekdfleciejaaGreatDoor
