/- An instance in the midst of a step: states are left. -/
import Derived.Test.YtbpmkofnfgdegaaGreatDoorM21
import Derived.Test.YtbpmkofnfgdegaaGreatDoorM8
import Derived.Test.YtbpmkofnfgdegaaGreatDoorM6
import Derived.Test.YtbpmkofnfgdegaaGreatDoorM18
import Derived.Test.YtbpmkofnfgdegaaGreatDoorM19
import Derived.Test.YtbpmkofnfgdegaaGreatDoorM11
set_option maxRecDepth 100000
set_option maxHeartbeats 16000000
set_option linter.unusedSimpArgs false
namespace Go.Proofs.YtbpmkofnfgdegaaGreatDoor
open Go.Proofs.Tryz
open Go.RowKit
section
theorem zpI (n:Nat) (act:List Int) (j:Nat) (hj:j<n):(((List.range j).map fun k:Nat=>[B (act.contains (k:Int))])++List.replicate (n-j) [B false]).set j [B (act.contains (j:Int))]=((List.range (j+1)).map fun k:Nat=>[B (act.contains (k:Int))])++List.replicate (n-(j+1)) [B false]:=by
 rw [List.set_append_right _ _ (by simp)];simp only [List.length_map,List.length_range,Nat.sub_self];rw [show n-j=(n-(j+1))+1 by omega,List.replicate_succ,List.set_cons_zero,List.range_succ,List.map_append,List.append_assoc];rfl
theorem zm6 (env:Env) (c:ChD) (hc:c.states.length<=4000) (x:InD) (hl:x.1.length<=1000000) (d:Int):Con prog env 157 [.agg (chAV c), .agg (inE x),I d] (.agg (woAV (woX c x.1 x.2.1 d))):=by
 have m1: ¬(16777216:Int)< (c.states.length:Int):=by omega
 have m3: ¬(c.states.length:Int)<0:=by omega
 have m4: ¬(281474976710656:Int)< (c.states.length:Int):=by omega
 have m2: ¬(281474976710656:Int)<1*(c.states.length:Int):=by omega
 unfold woAV;rw [zn6];show Con _ _ _ _ (.agg [ints34 x.2.1,I d, .seq 1 (flagA c.states.length x.1)]);unfold flagA;unfold inE;have hfl: ∀j,j<=c.states.length->(((List.range j).map fun k:Nat=>[B (x.1.contains (k:Int))])++List.replicate (c.states.length-j) [B false]).length=c.states.length:=fun j hj=>by simp; omega
 refine qf func157 call157 ntmps157 results157 ?_;have F:=ai5 chAV.eq_1 m1 m2 m3 m4;repeat refine st ?_
 refine zab (D:=Nat) (fun j vs=>[(3, .loc 3 (vs 3) 0 0),(4, .loc 4 (vs 4) 0 0),(6, .loc 6 (vs 6) 0 0),(7, .loc 7 (vs 7) 0 0),(8,I j)])
  (fun j vs=>[(3,⟨5,[chAV c],26,false⟩),(4,⟨5,[[ints34 x.1,ints34 x.2.1, .seq 2 (x.2.2.1.map mmAV), .seq 2 (x.2.2.2.1.map tmAV),B x.2.2.2.2]],31,false⟩),(6,⟨3,[[nilS,I 0,nilS]],107,false⟩),(7,⟨3,[[ints34 x.2.1,I d, .row 15 (vs 15)]],107,false⟩),(15,⟨1,((List.range j).map fun k:Nat=>[B (x.1.contains (k:Int))])++List.replicate (c.states.length-j) [B false],4,true⟩)])
  (fun j _ esc=>j<=c.states.length/\esc 15=false/\esc 6=false) (fun j=>c.states.length-j) 0 ?_ ?_ ?_ ?_
 ·exact⟨Nat.zero_le _,by simp only [go_sem],by simp only [go_sem]⟩
 ·exact qe
 ·have F:=ai3 chAV.eq_1 List.range_zero Nat.sub_zero
  (simp only [go_sem,F])
  try rfl
 rintro j ws esc ⟨hj,e0,e1⟩;have hlen:=hfl j hj;by_cases hlt:j<c.states.length
 ·have q1:=nlt hlt;have q2:=zaa hlt (by omega);have f0:=zev env x.1 j hl;have hst:=zpI c.states.length x.1 j hlt
  have hgt: ∃v,(((List.range j).map fun k:Nat=>[B (x.1.contains (k:Int))])++List.replicate (c.states.length-j) [B false])[j]? =some [v]:=by
   rw [List.getElem?_append_right (by simp),List.getElem?_replicate];simp only [List.length_map,List.length_range,Nat.sub_self];rw [if_pos (by omega)];exact⟨_,rfl⟩
  obtain⟨v,hv⟩:=hgt;generalize hG:(((List.range j).map fun k:Nat=>[B (x.1.contains (k:Int))])++List.replicate (c.states.length-j) [B false])=G at*;have F:=ai8 chAV.eq_1 q1 q2 hlen hst hv e0 e1;repeat (first | refine st ?_ | refine cC f0 ?_)
  refine⟨j+1,⟨hlt,by simp only [go_sem,e0],by simp only [go_sem,e1]⟩, ?_, ?_,by omega⟩
  ·exact qe
  ·have F:=chAV.eq_1;exact qe
 ·obtain rfl:j=c.states.length:=by omega
  have q1: ¬(c.states.length:Int)< (c.states.length:Int):=by omega
  rw [Nat.sub_self,List.replicate_zero,List.append_nil];have F:=ai4 chAV.eq_1 q1 e0 e1;repeat refine st ?_
  exact aR
end
section
def rrA (r:RunD) (d now:Int):ErD->List AV
 | none=>[ints34 r.act,ints34 r.vars, .seq 2 (r.mem.map mmAV), .seq 2 (r.tms.map tmAV),B r.over,ints34 r.outs, .seq 2 (r.rais.map tmAV),I d,I now,I 0,I (-1)]
 | some (k,_)=>[ints34 r.act, .any, .any, .any, .any, .any, .any,I d,I now,I (k:Nat),I (-1)]
theorem zsD (r:RunD) (d now:Int) (k:Nat) (ps:List Int) (x1 x2 x3 x4 x5 x6:AV):RStr (.agg [ints34 r.act,x1,x2,x3,x4,x5,x6,I d,I now,I (k:Nat),I (-1)]) (.agg (rrA r d now (some (k,ps)))):=
 .of (.agg (.cons (.refl _) (.cons (.any _) (.cons (.any _) (.cons (.any _) (.cons (.any _) (.cons (.any _) (.cons (.any _) (.cons (.refl _) (.cons (.refl _) (.cons (.refl _) (.cons (.refl _) .nil)))))))))))) (fun _ _ _ h=>by cases h) (fun _ _ _ h=>by cases h)
theorem zcP (env:Env) (r:RunD) (d now:Int) (k:Nat) (ps:List Int):Con prog env 158 [.agg (rrA r d now none),I (k:Nat)] (.agg (rrA r d now (some (k,ps)))):=by
 refine qw func158 call158 ntmps158 results158 ?_;have F:=ai rrA.eq_1 rrA.eq_2;repeat refine st ?_
 (refine zak ?_; refine⟨_,(by show (zaz _ _ _).run _=some _; simp only [go_sem,F]; rfl), ?_⟩)
 exact zsD r d now k ps _ _ _ _ _ _
theorem zjb (env:Env) (l:List (List UInt8×Int)) (hl:l.length<=4000) (s:List UInt8):Con prog env 155 [.seq 2 (l.map tmAV),Sg s] (.own 86 2 ((without l s).map tmAV)):=by
 refine qf func155 call155 ntmps155 results155 ?_;repeat refine st0 ?_
 refine zab (D:=Nat) (fun j vs=>[(0, .seq 2 (l.map tmAV)),(1,Sg s),(5, .row 7 (vs 7)),(6,I j)]) (fun j vs=>[(7,⟨2,(without (l.take j) s).map tmAV,86,true⟩)]) (fun j _ esc=>j<=l.length/\esc 7=false) (fun j=>l.length-j) 0 ?_ ?_ ?_ ?_
 ·exact⟨Nat.zero_le _,by simp only [go_sem]⟩
 ·exact qe0
 ·(simp only [go_sem])
  try rfl
 rintro j ws es ⟨hj,e0⟩;by_cases hlt:j<l.length
 ·obtain⟨x,hx⟩: ∃x,l[j]? =some x:=⟨l[j],List.getElem?_eq_getElem hlt⟩;have q1:=nlt hlt;have q2:=zaa hlt (by omega);have hle:(without (l.take j) s).length<=j:=Nat.le_trans (List.length_filter_le ..) (by rw [List.length_take]; omega);have q3:Fits ((without (l.take j) s).length+1) 24:=zaf (by omega) (by omega);cases hb:x.1==s with
  | true=>
    have q4:without (l.take (j+1)) s=without (l.take j) s:=by unfold without; rw [zbm hx,List.filter_append]; simp [hb]
    have F:=ai6 tmAV.eq_1 hx hb q1 q2 e0;repeat refine st ?_
    refine⟨j+1,⟨hlt,by simp only [go_sem,e0]⟩, ?_, ?_,by omega⟩
    ·exact qe
    ·simp only [q4];exact qe
  | false=>
    have q4:(without (l.take (j+1)) s).map tmAV=(without (l.take j) s).map tmAV++[tmAV x]:=by unfold without; rw [zbm hx,List.filter_append]; simp [hb]
    have F:=ai7 tmAV.eq_1 hx hb q1 q2 q3 e0;repeat refine st ?_
    refine⟨j+1,⟨hlt,by simp only [go_sem,e0]⟩, ?_, ?_,by omega⟩
    ·exact qe
    ·simp only [q4];exact qe
 ·obtain rfl:j=l.length:=by omega
  have q1: ¬(l.length:Int)< (l.length:Int):=by omega
  rw [List.take_length];have F:=ai q1 e0;repeat refine st ?_
  exact aR
theorem zrs (x y:List UInt8):(Op.bytesLess y x||y==x)= !Op.bytesLess x y:=by
 cases h:Op.bytesLess x y with
 | true=>
   rw [zfM h]
   have:(y==x)=false:=by
    rw [beq_eq_false_iff_ne];rintro rfl;rw [zcv] at h;cases h
   rw [this];rfl
 | false=>
   cases h2:Op.bytesLess y x with
   | true=>rfl
   | false=>rw [zbS h2 h]; simp
theorem zsV {x y:List UInt8×Int} {L:List (List UInt8×Int)} (h:Op.bytesLess x.1 y.1=true):insT x (y::L)=x::y::L:=by simp [insT,h]
theorem ztC {x y:List UInt8×Int} {L:List (List UInt8×Int)} (h:Op.bytesLess x.1 y.1=false):insT x (y::L)=y::insT x L:=by simp [insT,h]
theorem zjd (env:Env) (l:List (List UInt8×Int)) (hl:l.length<=4000) (x:List UInt8×Int):Con prog env 159 [.seq 2 (l.map tmAV), .agg (tmAV x)] (.own 86 2 ((insT x l).map tmAV)):=by
 unfold tmAV;show Con _ _ _ [.seq 2 (l.map tmAV),_] (.own _ 2 ((insT x l).map tmAV));refine qf func159 call159 ntmps159 results159 ?_;repeat refine st0 ?_
 refine zab (D:=Nat×Bool×List (List UInt8×Int)) (fun d vs=>[(0, .seq 2 (l.map tmAV)),(3, .loc 3 (vs 3) 0 0),(5, .row 8 (vs 8)),(6,B d.2.1),(7,I d.1)]) (fun d vs=>[(3,⟨2,[[Sg x.1,I x.2]],86,false⟩),(8,⟨2,d.2.2.map tmAV,86,true⟩)]) (fun d _ esc=>(d.1<=l.length/\d.2.2.length<=d.1+(if d.2.1=true then 1 else 0)/\insT x l=d.2.2++(if d.2.1=true then l.drop d.1 else insT x (l.drop d.1)))/\esc 8=false) (fun d=>l.length-d.1) (0,false,[]) ?_ ?_ ?_ ?_
 ·exact⟨⟨Nat.zero_le _,Nat.zero_le _,rfl⟩,by simp only [go_sem]⟩
 ·exact qe0
 ·(simp only [go_sem])
  try rfl
 rintro⟨j,b,o⟩ ws es ⟨⟨hj,hol,heq⟩,e0⟩;simp only at hj hol heq;have hol2:o.length<=j+1:=by split at hol<;>omega
 by_cases hlt:j<l.length
 ·obtain⟨y,hx⟩: ∃x,l[j]? =some x:=⟨l[j],List.getElem?_eq_getElem hlt⟩;have q1:=nlt hlt;have q2:=zaa hlt (by omega);have q3:Fits (o.length+1) 24:=zaf (by omega) (by omega);have q5:Fits (o.length+1+1) 24:=zaf (by omega) (by omega);have hg:=zrs x.1 y.1;have q4:(o++[y]).map tmAV=o.map tmAV++[[Sg y.1,I y.2]]:=by rw [List.map_append]; rfl
  have q6:(o++[x,y]).map tmAV=o.map tmAV++[[Sg x.1,I x.2]]++[[Sg y.1,I y.2]]:=by rw [List.map_append,List.append_assoc]; rfl
  rw [za0 hx] at heq;cases b with
  | true=>
    simp only [if_true] at heq;have F:=ai6 tmAV.eq_1 hx q1 q2 q3 e0;repeat refine st ?_
    refine⟨(j+1,true,o++[y]),⟨⟨hlt,by simp only [if_true,List.length_append,List.length_singleton] at hol |-; omega,by simp only [if_true]; rw [heq,List.append_assoc]; rfl⟩,by simp only [go_sem,e0]⟩, ?_, ?_,by simp only; omega⟩
    ·exact qe
    ·simp only [q4];exact qe
  | false=>
    simp only [Bool.false_eq_true,if_false] at heq;cases hb:Op.bytesLess x.1 y.1 with
    | true=>
      rw [hb] at hg;rw [zsV hb] at heq;have F:=ai8 tmAV.eq_1 hx hg q1 q2 q3 q5 e0;repeat refine st ?_
      refine⟨(j+1,true,o++[x,y]),⟨⟨hlt, ?_, ?_⟩,by simp only [go_sem,e0]⟩, ?_, ?_,by simp only; omega⟩
      ·simp only [Bool.false_eq_true,if_false] at hol;simp only [List.length_append,List.length_cons,List.length_nil,if_true];omega
      ·simp only [if_true]; rw [heq,List.append_assoc]; rfl
      ·exact qe
      ·simp only [q6];exact qe
    | false=>
      rw [hb] at hg;rw [ztC hb] at heq;have F:=ai7 tmAV.eq_1 hx hg q1 q2 q3 e0;repeat refine st ?_
      refine⟨(j+1,false,o++[y]),⟨⟨hlt,by simp only [Bool.false_eq_true,if_false,List.length_append,List.length_singleton] at hol |-; omega,by simp only [Bool.false_eq_true,if_false]; rw [heq,List.append_assoc]; rfl⟩,by simp only [go_sem,e0]⟩, ?_, ?_,by simp only; omega⟩
      ·exact qe
      ·simp only [q4];exact qe
 ·obtain rfl:j=l.length:=by omega
  have q1: ¬(l.length:Int)< (l.length:Int):=by omega
  have q3:Fits (o.length+1) 24:=zaf (by omega) (by omega);rw [List.drop_length] at heq;cases b with
  | true=>
    rw [if_pos rfl,List.append_nil] at heq;rw [heq];have F:=ai q1 e0;repeat refine st ?_
    exact aR
  | false=>
    rw [if_neg Bool.false_ne_true] at heq;have q4:(insT x l).map tmAV=o.map tmAV++[[Sg x.1,I x.2]]:=by rw [heq,List.map_append]; rfl
    rw [q4];have F:=ai3 q1 q3 e0;repeat refine st ?_
    exact aR
theorem zhk (env:Env) (r:RunD) (d now:Int) (s:List UInt8) (v:Int):Con prog env 100 [.agg (rrA r d now none),Sg s,I v] (.agg (rrA (raiseP r s v).1 d now (raiseP r s v).2)):=by
 have f0:=zcP env r d now 8 [-1];unfold raiseP;by_cases hl:16<=r.rais.length
 ·rw [if_pos hl];have q0:(16:Int)<=(r.rais.length:Int):=by omega
  unfold rrA at f0 |-;simp only;refine qf func100 call100 ntmps100 results100 ?_;have F:=q0;repeat (first | refine st ?_ | refine cC f0 ?_)
  exact aR
 ·rw [if_neg hl];have q0: ¬(16:Int)<=(r.rais.length:Int):=by omega
  have q1:Fits (r.rais.length+1) 24:=zaf (by omega) (by omega);have q2:Fits r.rais.length 24:=zaf (by omega) (by omega);unfold rrA;simp only [List.map_append,List.map_cons,List.map_nil];refine qf func100 call100 ntmps100 results100 ?_;have F:=ai4 tmAV.eq_1 q0 q1 q2;repeat refine st ?_
  exact aR
end
section
theorem zsG (env:Env) (c:ChD) (hc:c.states.length<=4000) (hcv:c.vars.length<=1000) (d now:Int) (hd:zaj d=true) (hn:0<=now/\now<=1099511627776) (r:RunD) (hr:RunOk c r) (hl:r.act.length<=1000000) (a:ActD) (ha:actB c.vars.length c.states.length a=true):Con prog env 98 [.agg (chAV c), .agg (rrA r d now none), .agg (zam a)] (.agg (rrA (doP c d now r a).1 d now (doP c d now r a).2)):=by
 have hlv:=hr.len;have hlt:=hr.tml;have w0:=(zjb env r.tms (by omega) a.name).lend (zaJ (fun _=>rfl) _);unfold doP;by_cases h5:a.kind=5
 ·rw [if_pos h5];have k5:(a.kind==5)=true:=by simp [h5]
  generalize without r.tms a.name=L at*;unfold rrA;simp only;refine qf func98 call98 ntmps98 results98 ?_;have F:=ai3 chAV.eq_1 zam.eq_1 k5;repeat refine st ?_
  refine lL w0 ?_;repeat refine st ?_
  exact aR
 rw [if_neg h5];have k5:(a.kind==5)=false:=by simp [h5]
 have hcode:zaF a.code c.vars.length c.states.length=true:=by
  unfold actB at ha;repeat' split at ha
  all_goals (first | (exact absurd ‹a.kind=5› h5) | (simp only [Bool.and_eq_true] at ha; exact ha.2) | cases ha)
 have f1:=zm6 env c hc (r.act,r.vars,r.mem,r.tms,r.over) hl d;have f2:=zoP env (woR c d r) (zn7 hr hd) (by show r.vars.length<=_; omega) a.code (by rw [show (woR c d r).act.length=c.states.length from zn5 c r.act r.vars d,show (woR c d r).vars.length=c.vars.length from hr.len]; exact hcode);rw [show woX c (r.act,r.vars,r.mem,r.tms,r.over).1 (r.act,r.vars,r.mem,r.tms,r.over).2.1 d=woR c d r from rfl] at f1;generalize (woR c d r)=W at*;unfold chAV inE at f1;simp only at f1;cases hv:zg7 W a.code with
 | none=>
   have f3:=zcP env r d now 2 [-1, -1];rw [hv] at f2;unfold zsY at f2;unfold rrA at f3 |-;simp only;refine qf func98 call98 ntmps98 results98 ?_;have F:=ai3 chAV.eq_1 zam.eq_1 k5;repeat (first | refine st ?_ | refine cC f1 ?_ | refine cC f2 ?_ | refine cC f3 ?_)
   exact aR
 | some v=>
   rw [hv] at f2;unfold zsY at f2;simp only;have r0:=zhk env r d now a.name v;by_cases k1:a.kind=1
   ·rw [if_pos k1];have q1:(a.kind==1)=true:=by simp [k1]
    obtain⟨hn0,hn1⟩:0<=a.n/\a.n<c.vars.length:=by
     unfold actB at ha;rw [if_pos k1] at ha;simp only [Bool.and_eq_true,decide_eq_true_eq] at ha;exact ha.1.1
    have q2:a.n< (r.vars.length:Int):=by omega
    have q3:Fits r.vars.length 8:=zaf (by omega) (by omega);obtain⟨x,hx⟩: ∃x,r.vars[a.n.toNat]? =some x:=⟨r.vars[a.n.toNat]'(by omega),List.getElem?_eq_getElem _⟩;unfold rrA;simp only [List.map_set,ints34];refine qf func98 call98 ntmps98 results98 ?_;have F:=ai9 chAV.eq_1 zam.eq_1 intAV.eq_1 k5 q1 q2 q3 hn0 hx;repeat (first | refine st ?_ | refine cC f1 ?_ | refine cC f2 ?_)
    exact aR
   rw [if_neg k1];have q1:(a.kind==1)=false:=by simp [k1]
   by_cases k2:a.kind=2
   ·rw [if_pos k2];have q2:(a.kind==2)=true:=by simp [k2]
    generalize raiseP r a.name v=X at*;rcases X with⟨r1,_ | ⟨k,ps⟩⟩
    ·unfold rrA at r0 |-;simp only at r0 |-;refine qf func98 call98 ntmps98 results98 ?_;have F:=ai5 chAV.eq_1 zam.eq_1 k5 q1 q2;repeat (first | refine st ?_ | refine cC f1 ?_ | refine cC f2 ?_ | refine cC r0 ?_)
     exact aR
    ·unfold rrA at r0 |-;simp only at r0 |-;refine qf func98 call98 ntmps98 results98 ?_;have F:=ai5 chAV.eq_1 zam.eq_1 k5 q1 q2;repeat (first | refine st ?_ | refine cC f1 ?_ | refine cC f2 ?_ | refine cC r0 ?_)
     exact aR
   rw [if_neg k2];have q2:(a.kind==2)=false:=by simp [k2]
   by_cases k4:a.kind=4
   ·rw [if_pos k4];have q4:(a.kind==4)=true:=by simp [k4]
    have k0:IntKind.i64.wrap (1099511627776-now)=1099511627776-now:=zaw (by omega) (by omega);unfold startP;by_cases hw:v<0\/1099511627776-now<v
    ·rw [if_pos hw];have f3:=zcP env r d now 2 [-1];unfold rrA at f3 |-;simp only;by_cases hv0:v<0
     ·refine qf func98 call98 ntmps98 results98 ?_;have F:=ai7 chAV.eq_1 zam.eq_1 k5 q1 q2 q4 hv0;repeat (first | refine st ?_ | refine cC f1 ?_ | refine cC f2 ?_ | refine cC f3 ?_)
      exact aR
     ·have hv1:1099511627776-now<v:=by omega
      refine qf func98 call98 ntmps98 results98 ?_;have F:=ai9 chAV.eq_1 zam.eq_1 k5 q1 q2 q4 hv0 hv1 k0;repeat (first | refine st ?_ | refine cC f1 ?_ | refine cC f2 ?_ | refine cC f3 ?_)
      exact aR
    rw [if_neg hw];have hv0: ¬v<0:=by omega
    have hv1: ¬1099511627776-now<v:=by omega
    by_cases h8:8<=(without r.tms a.name).length
    ·rw [if_pos h8];have q0:(8:Int)<=((without r.tms a.name).length:Int):=by omega
     have f3:=zcP env r d now 8 [-1];generalize without r.tms a.name=L at*;unfold rrA at f3 |-;simp only;refine qf func98 call98 ntmps98 results98 ?_;have F:=ai10 chAV.eq_1 zam.eq_1 k5 q1 q2 q4 hv0 hv1 k0 q0;repeat (first | refine st ?_ | refine cC f1 ?_ | refine cC f2 ?_)
     refine lL w0 ?_;repeat (first | refine st ?_ | refine cC f3 ?_)
     exact aR
    ·rw [if_neg h8];have q0: ¬(8:Int)<=((without r.tms a.name).length:Int):=by omega
     have q3:IntKind.i64.wrap (now+v)=now+v:=zaw (by omega) (by omega);have f3:=(zjd env (without r.tms a.name) (by omega) (a.name,now+v)).lend (zaJ (fun _=>rfl) _);generalize insT (a.name,now+v) (without r.tms a.name)=L2 at*;generalize without r.tms a.name=L at*;unfold tmAV at f3;change ConF _ _ _ [.seq 2 (L.map tmAV),_] (.own _ 2 (L2.map tmAV)) at f3;unfold rrA;simp only;refine qf func98 call98 ntmps98 results98 ?_;have F:=ai11 chAV.eq_1 zam.eq_1 k5 q1 q2 q4 hv0 hv1 k0 q0 q3;repeat (first | refine st ?_ | refine cC f1 ?_ | refine cC f2 ?_)
     refine lL w0 ?_;repeat refine st ?_
     refine lL f3 ?_;repeat refine st ?_
     exact aR
   rw [if_neg k4];have q4:(a.kind==4)=false:=by simp [k4]
   unfold outP;by_cases ho:256<=r.outs.length
   ·rw [if_pos ho];have q0:(256:Int)<=(r.outs.length:Int):=by omega
    have f3:=zcP env r d now 8 [-1];unfold rrA at f3 |-;simp only;refine qf func98 call98 ntmps98 results98 ?_;have F:=ai7 chAV.eq_1 zam.eq_1 k5 q1 q2 q4 q0;repeat (first | refine st ?_ | refine cC f1 ?_ | refine cC f2 ?_ | refine cC f3 ?_)
    exact aR
   ·rw [if_neg ho];have q0: ¬(256:Int)<=(r.outs.length:Int):=by omega
    have q3:Fits (r.outs.length+1) 8:=zaf (by omega) (by omega);have q5:Fits r.outs.length 8:=zaf (by omega) (by omega);unfold rrA;simp only [List.map_append,List.map_cons,List.map_nil,ints34];refine qf func98 call98 ntmps98 results98 ?_;have F:=ai10 chAV.eq_1 zam.eq_1 intAV.eq_1 k5 q1 q2 q4 q0 q3 q5;repeat (first | refine st ?_ | refine cC f1 ?_ | refine cC f2 ?_)
    exact aR
def ErOk (e:ErD):Prop:= ∀x,e=some x->x.1=2\/x.1=8
theorem zia (r:RunD) (s:List UInt8) (v:Int):ErOk (raiseP r s v).2:=by
 unfold raiseP;split<;>(intro x h; cases h);exact .inr rfl
theorem zud (c:ChD) (d now:Int) (r:RunD) (a:ActD):ErOk (doP c d now r a).2:=by
 unfold doP;split
 ·intro x h; cases h
 split
 ·intro x h; cases h; exact .inl rfl
 split
 ·intro x h; cases h
 split
 ·exact zia _ _ _
 split
 ·unfold startP;split
  ·intro x h; cases h; exact .inl rfl
  split
  ·intro x h; cases h; exact .inr rfl
  ·intro x h; cases h
 ·unfold outP;split
  ·intro x h; cases h; exact .inr rfl
  ·intro x h; cases h
theorem zqB (c:ChD) (d now:Int): ∀(l:List ActD) (r:RunD),ErOk (allP c d now r l).2
 | [],r=>fun x h=>by cases h
 | a::l,r=>by
   unfold allP;split
   ·exact zqB c d now l _
   ·exact zud c d now r a
theorem zq0 (env:Env) (c:ChD) (hc:c.states.length<=4000) (hcv:c.vars.length<=1000) (d now:Int) (hd:zaj d=true) (hn:0<=now/\now<=1099511627776) (r:RunD) (hr:RunOk c r) (hl:r.act.length<=1000000) (l:List ActD) (hll:l.length<=1000) (ha: ∀a∈l,actB c.vars.length c.states.length a=true):Con prog env 50 [.agg (chAV c), .agg (rrA r d now none), .seq 4 (l.map zam)] (.agg (rrA (allP c d now r l).1 d now (allP c d now r l).2)):=by
 have hdo:=fun(r:RunD) hr hl (a:ActD) ha=>zsG env c hc hcv d now hd hn r hr hl a ha;have hok:=fun(r:RunD) (hr:RunOk c r) (a:ActD) ha=>zs1 hd hn hr (a:=a) ha;refine qf func50 call50 ntmps50 results50 ?_;have F:=ai3 rrA.eq_1 rrA.eq_2 chAV.eq_1;repeat refine st ?_
 refine zab (D:=Nat×RunD×ErD) (fun x vs=>[(2, .seq 4 (l.map zam)),(3, .loc 3 (vs 3) 0 0),(4, .loc 4 (vs 4) 0 0),(6, .loc 6 (vs 6) 0 0),(7,I x.1)]) (fun x vs=>[(3,⟨5,[chAV c],26,false⟩),(4,⟨11,[rrA x.2.1 d now x.2.2],59,false⟩),(6,⟨11,[[nilS,nilS,nilS,nilS,B false,nilS,nilS,I 0,I 0,I 0,I 0]],59,false⟩)]) (fun x _ esc=>(x.1<=l.length/\(match x.2.2 with
  | none=>allP c d now r l=allP c d now x.2.1 (l.drop x.1)/\RunOk c x.2.1/\x.2.1.act=r.act
  | some e=>allP c d now r l=(x.2.1,some e)))/\esc 4=false/\esc 6=false) (fun x=>(l.length-x.1)+(if x.2.2.isSome=true then 0 else 1)) (0,r,none) ?_ ?_ ?_ ?_
 ·exact⟨⟨Nat.zero_le _,rfl,hr,rfl⟩,by simp only [go_sem,and_self]⟩
 ·exact qe
 ·exact qe
 rintro⟨j,r1,e⟩ ws es ⟨⟨hj,heq⟩,e0,e1⟩;simp only at hj heq;rcases e with _ | ⟨k,ps⟩
 ·obtain⟨heq,hr1,hact⟩:=heq;by_cases hlt:j<l.length
  ·obtain⟨a,hx⟩: ∃a,l[j]? =some a:=⟨l[j],List.getElem?_eq_getElem hlt⟩;have ham:=ha a (List.mem_of_getElem? hx);have f0:=hdo r1 hr1 (by rw [hact]; exact hl) a ham;obtain⟨k1,k2⟩:=hok r1 hr1 a ham;have q1:=nlt hlt;have q2:=zaa hlt (by omega);rw [zmF hx] at heq;unfold chAV zam at f0;rcases hX:doP c d now r1 a with⟨r2,_ | ⟨k,ps⟩⟩
   ·rw [hX] at heq f0 k1 k2;simp only at heq k1 k2;unfold rrA at f0;simp only at f0;have F:=ai9 rrA.eq_1 rrA.eq_2 chAV.eq_1 zam.eq_1 hx q1 q2 e0 e1;repeat (first | refine st ?_ | refine cC f0 ?_)
    refine⟨(j+1,r2,none),⟨⟨hlt,heq,k1,k2.act.trans hact⟩, ?_⟩, ?_, ?_, ?_⟩
    ·simp only [go_sem,e0,e1,and_self]
    ·exact qe
    ·exact qe
    ·simp; omega
   ·rw [hX] at heq f0;simp only at heq;unfold rrA at f0;simp only at f0;have F:=ai9 rrA.eq_1 rrA.eq_2 chAV.eq_1 zam.eq_1 hx q1 q2 e0 e1;repeat (first | refine st ?_ | refine cC f0 ?_)
    refine⟨(j+1,r2,some (k,ps)),⟨⟨hlt,heq⟩, ?_⟩, ?_, ?_, ?_⟩
    ·simp only [go_sem,e0,e1,and_self]
    ·exact qe
    ·exact qe
    ·simp; omega
  ·obtain rfl:j=l.length:=by omega
   have q1: ¬(l.length:Int)< (l.length:Int):=by omega
   rw [List.drop_length] at heq;rw [show allP c d now r1 []=(r1,none) from rfl] at heq;rw [heq];show awp _ _ _ _ _ _;have F:=ai6 rrA.eq_1 rrA.eq_2 chAV.eq_1 q1 e0 e1;repeat refine st ?_
   exact aR
 ·have hk:((k:Int)==0)=false:=by
   have:=zqB c d now l r (k,ps) (by rw [heq]);simp;simp only at this;omega
  rw [heq];show awp _ _ _ _ _ _;by_cases hlt:j<l.length
  ·have q1:=nlt hlt;have F:=ai7 rrA.eq_1 rrA.eq_2 chAV.eq_1 q1 hk e0 e1;repeat refine st ?_
   exact aR
  ·obtain rfl:j=l.length:=by omega
   have q1: ¬(l.length:Int)< (l.length:Int):=by omega
   have F:=ai7 rrA.eq_1 rrA.eq_2 chAV.eq_1 q1 hk e0 e1;repeat refine st ?_
   exact aR
end
section
theorem zc5 {c:ChD} {k:Nat} {s:StD} (hs:c.states[k]? =some s):za7 c k=s.kind:=by unfold za7; rw [zbd,hs]
theorem zkb (env:Env) (c:ChD) (h:Full c) (act:List Int): ∀(f i:Nat),i<c.states.length->c.states.length-i<=f->Con prog env 203 [.agg (chAV c),zai c, .seq 1 (flagA c.states.length act),I i] (B (zg8 c act f i))
 | 0,i,hi,hf=>by omega
 | f+1,i,hi,hf=>by
   have hlen:=h.few;obtain⟨s,hs⟩: ∃s,c.states[i]? =some s:=⟨c.states[i],List.getElem?_eq_getElem hi⟩;have ih:=fun(k:Nat) hk hf=>zkb env c h act f k hk hf;have q0:=nlt hi;have f0:=zcl env c h i;rw [if_pos (.inr (zay.2 hi))] at f0;have f0:=(f0.lend (zaJ (fun _=>rfl) _)).seen;have hK:=zbF h.toRight i true;have hKm: ∀j∈kidsL c i true,i<j/\j<c.states.length:=fun j hj=>by have:=zaG h.toRight (zao hj).1; omega
   have hfl:=zce c.states.length act;unfold zg8;rw [zc5 hs,show kidZ c (i:Int)=zL (kidsL c i true) from rfl];generalize kidsL c i true=K at*;unfold zai at f0 ih |-;by_cases k3:s.kind=3
   ·rw [if_pos k3];have b3:(s.kind==3)=true:=by simp [k3]
    refine qf func203 call203 ntmps203 results203 ?_;have F:=ai5 chAV.eq_1 stAV.eq_1 hs q0 b3;repeat refine st ?_
    exact aR
   rw [if_neg k3];have b3:(s.kind==3)=false:=by simp [k3]
   by_cases k1:s.kind=1
   ·rw [if_pos k1];have b1:(s.kind==1)=true:=by simp [k1]
    refine qf func203 call203 ntmps203 results203 ?_;have F:=ai6 chAV.eq_1 stAV.eq_1 hs q0 b3 b1;repeat refine st ?_
    refine lL f0 ?_;repeat refine st ?_
    refine zab (D:=Nat) (fun j vs=>[(2, .seq 1 (flagA c.states.length act)),(4, .loc 4 (vs 4) 0 0),(25, .seq 1 (K.map zae)),(26,I K.length),(27,I j)]) (fun j vs=>[(4,⟨5,[chAV c],26,false⟩)]) (fun j _ esc=>j<=K.length/\(zL K).find? (fun k=>act.contains k)=((zL K).drop j).find? fun k=>act.contains k) (fun j=>K.length-j) 0 ?_ ?_ ?_ ?_
    ·exact⟨Nat.zero_le _,rfl⟩
    ·exact qe
    ·exact qe
    rintro j ws es ⟨hj,heq⟩;by_cases hlt:j<K.length
    ·obtain⟨k,hx⟩: ∃k,K[j]? =some k:=⟨K[j],List.getElem?_eq_getElem hlt⟩;obtain⟨_,hk⟩:=hKm k (List.mem_of_getElem? hx);obtain⟨t,ht⟩: ∃s,c.states[k]? =some s:=⟨c.states[k],List.getElem?_eq_getElem hk⟩;have q1:=nlt hlt;have q2:=zaa hlt (by omega);have q3:=nlt hk;have hat:=zed (act:=act) hk;rw [za0 (zkw hx),List.find?_cons] at heq;cases hb:act.contains (k:Int) with
     | true=>
       rw [hb] at hat heq;simp only at heq;rw [heq];simp only [zc5 ht];show awp _ _ _ _ _ _;have F:=ai11 chAV.eq_1 stAV.eq_1 zae.eq_1 hs ht hx q1 q2 q3 hat hfl;repeat refine st ?_
       exact aR
     | false=>
       rw [hb] at hat heq;simp only at heq;have F:=ai11 chAV.eq_1 stAV.eq_1 zae.eq_1 hs ht hx q1 q2 q3 hat hfl;repeat refine st ?_
       refine⟨j+1,⟨hlt,heq⟩, ?_, ?_,by omega⟩
       ·exact qe
       ·exact qe
    ·obtain rfl:j=K.length:=by omega
     have q1: ¬(K.length:Int)< (K.length:Int):=by omega
     rw [List.drop_of_length_le (by rw [zcj]; omega)] at heq;rw [heq];show awp _ _ _ _ _ _;simp only [List.find?_nil];have F:=q1;repeat refine st ?_
     exact aR
   ·rw [if_neg k1];have b1:(s.kind==1)=false:=by simp [k1]
    refine qf func203 call203 ntmps203 results203 ?_;have F:=ai6 chAV.eq_1 stAV.eq_1 hs q0 b3 b1;repeat refine st ?_
    refine lL f0 ?_;repeat refine st ?_
    refine zab (D:=Nat) (fun j vs=>[(1, .ref 9 [tabCells c] 0 0),(2, .seq 1 (flagA c.states.length act)),(4, .loc 4 (vs 4) 0 0),(45, .seq 1 (K.map zae)),(46,I K.length),(47,I j)]) (fun j vs=>[(4,⟨5,[chAV c],26,false⟩)]) (fun j _ esc=>j<=K.length/\((zL K).all fun k=>zg8 c act f k)=((zL K).drop j).all fun k=>zg8 c act f k) (fun j=>K.length-j) 0 ?_ ?_ ?_ ?_
    ·exact⟨Nat.zero_le _,rfl⟩
    ·exact qe
    ·exact qe
    rintro j ws es ⟨hj,heq⟩;by_cases hlt:j<K.length
    ·obtain⟨k,hx⟩: ∃k,K[j]? =some k:=⟨K[j],List.getElem?_eq_getElem hlt⟩;obtain⟨hk0,hk⟩:=hKm k (List.mem_of_getElem? hx);have q1:=nlt hlt;have q2:=zaa hlt (by omega);have f1:=ih k hk (by omega);rw [za0 (zkw hx),List.all_cons] at heq;cases hb:zg8 c act f (k:Int) with
     | true=>
       rw [hb] at f1 heq;rw [Bool.true_and] at heq;unfold chAV at f1;have F:=ai5 chAV.eq_1 zae.eq_1 hx q1 q2;repeat (first | refine st ?_ | refine cC f1 ?_)
       refine⟨j+1,⟨hlt,heq⟩, ?_, ?_,by omega⟩
       ·exact qe
       ·exact qe
     | false=>
       rw [hb] at f1 heq;rw [Bool.false_and] at heq;rw [heq];unfold chAV at f1;show awp _ _ _ _ _ _;have F:=ai5 chAV.eq_1 zae.eq_1 hx q1 q2;repeat (first | refine st ?_ | refine cC f1 ?_)
       exact aR
    ·obtain rfl:j=K.length:=by omega
     have q1: ¬(K.length:Int)< (K.length:Int):=by omega
     rw [List.drop_of_length_le (by rw [zcj]; omega)] at heq;rw [heq];show awp _ _ _ _ _ _;have F:=q1;repeat refine st ?_
     exact aR
theorem zqb (env:Env) (a1 a8:Addr) (he:ChEnv env a1 a8) (c:ChD) (h:Full c) (hs:Small c) (act:List Int) (hl:act.length<=1000000) (hb:lgB c act=true) (i:Nat) (hi:i<c.states.length):Con prog env 163 [zai c, .seq 1 (act.map intAV),I i] (.tuple [B (zkc c act i),nilE]):=by
 have hlen:=h.few;have f0:=zbZ env a1 a8 he c h hs act hl;unfold chkE at f0;rw [hb] at f0;simp only [if_true] at f0;have f1:=((zdx env c (by omega) act hl).lend (zaJ (fun _=>rfl) _)).seen;have f2:=zav env c hs;have f3:=zkb env c h act 40 i hi (by omega);have hfl:=zce c.states.length act;have hat:=zed (act:=act) hi;have q0:=nlt hi;unfold zkc;cases hc:act.contains (i:Int) with
 | true=>
   rw [hc] at hat;rw [Bool.true_and];unfold zai at*;unfold chAV at f2 f3;refine qf func163 call163 ntmps163 results163 ?_;have F:=ai3 hfl hat q0;repeat (first | refine st ?_ | refine cC f0 ?_)
   refine lL f1 ?_;repeat (first | refine st ?_ | refine cC f2 ?_ | refine cC f3 ?_)
   exact aR
 | false=>
   rw [hc] at hat;rw [Bool.false_and];unfold zai at*;refine qf func163 call163 ntmps163 results163 ?_;have F:=ai3 hfl hat q0;repeat (first | refine st ?_ | refine cC f0 ?_)
   refine lL f1 ?_;repeat refine st ?_
   exact aR
end
section
def doneD (c:ChD) (act:List Int):Nat->Int->Bool
 | 0,_=>false
 | f+1,i=>if za7 c i=2 then(kidZ c i).all fun k=>doneD c act f k
   else if za7 c i=1 then(kidZ c i).any fun k=>act.contains k&&za7 c k==3
   else za7 c i==3
theorem zka {c:ChD} (h:Full c) {act:List Int} (hb:lgB c act=true): ∀(f:Nat) (x:Int),x∈act->zg8 c act f x=doneD c act f x
 | 0,x,_=>rfl
 | f+1,x,hx=>by
   have hL:=zma hb;obtain⟨s,hs,hz,hm,hp,h1,h2⟩:=hL.of hx;have hk:za7 c x=s.kind:=by unfold za7; rw [hs]
   unfold zaI at hm;simp only [Bool.or_eq_false_iff,beq_eq_false_iff_ne] at hm;have hkz:kidZ c x=zL (kidsL c x true):=rfl;unfold zg8 doneD;rw [hk,hkz];by_cases k3:s.kind=3
   ·rw [if_pos k3,if_neg (by omega),if_neg (by omega),k3];rfl
   rw [if_neg k3];by_cases k1:s.kind=1
   ·rw [if_pos k1,if_neg (by omega),if_pos k1];by_cases hK:kidsL c x true=[]
    ·rw [hK]; rfl
    ·have hone:=h1 k1 hK;unfold manyI at hone;obtain⟨a,ha⟩:=List.length_eq_one_iff.1 hone
     have hmem: ∀k∈kidsL c x true,act.contains (k:Int)=true->k=a:=fun k hk hc=>by
      have:k∈(kidsL c x true).filter fun k:Nat=>act.contains (k:Int):=List.mem_filter.2 ⟨hk,hc⟩;rw [ha] at this;simpa using this
     have hak:a∈kidsL c x true/\act.contains (a:Int)=true:=by
      have:a∈(kidsL c x true).filter fun k:Nat=>act.contains (k:Int):=by rw [ha]; simp
      exact List.mem_filter.1 this
     cases hfd:(zL (kidsL c x true)).find? fun k=>act.contains k with
     | none=>
       exfalso
       have:=List.find?_eq_none.1 hfd a (List.mem_map.2 ⟨a,hak.1,rfl⟩);exact this hak.2
     | some y=>
       have hy:=List.find?_some hfd;obtain⟨k,hk1,rfl⟩:=List.mem_map.1 (List.mem_of_find?_eq_some hfd);obtain rfl:=hmem k hk1 hy;simp only;rw [Bool.eq_iff_iff,List.any_eq_true];constructor
       ·intro e;exact⟨_,List.mem_map.2 ⟨k,hk1,rfl⟩,by rw [hy,e]; rfl⟩
       ·rintro⟨z,hz1,hz2⟩;obtain⟨m,hm1,rfl⟩:=List.mem_map.1 hz1;rw [Bool.and_eq_true] at hz2;obtain rfl:=hmem m hm1 hz2.1;exact hz2.2
   rw [if_neg k1];by_cases k2:s.kind=2
   ·rw [if_pos k2];have hall:=h2 k2;unfold manyI at hall;have hall:=List.length_filter_eq_length_iff.1 hall;rw [Bool.eq_iff_iff,List.all_eq_true,List.all_eq_true]
    have e: ∀y∈zL (kidsL c x true),zg8 c act f y=doneD c act f y:=fun y hy=>by
     obtain⟨k,hk1,rfl⟩:=List.mem_map.1 hy;exact zka h hb f k (List.contains_iff_mem.1 (hall k hk1))
    exact⟨fun q y hy=>by rw [<-e y hy]; exact q y hy,fun q y hy=>by rw [e y hy]; exact q y hy⟩
   ·exfalso
    have hz:=zas.1 hz
    have:=h.shape (k:=x.toNat) (s:=s) (by
     unfold at_ at hs;rw [if_pos hz.1] at hs
     exact hs)
    unfold zap at this;rw [if_neg k1,if_neg k2,if_neg k3] at this;split at this
    ·omega
    ·cases this
theorem zjh (env:Env) (c:ChD) (h:Full c) (act:List Int) (hl:act.length<=1000000): ∀(f i:Nat),i<c.states.length->c.states.length-i<=f->Con prog env 102 [.agg (chAV c), .seq 1 (act.map intAV),I i] (B (doneD c act f i))
 | 0,i,hi,hf=>by omega
 | f+1,i,hi,hf=>by
   have hlen:=h.few;obtain⟨s,hs⟩: ∃s,c.states[i]? =some s:=⟨c.states[i],List.getElem?_eq_getElem hi⟩;have ih:=fun(k:Nat) hk hf=>zjh env c h act hl f k hk hf;have q0:=nlt hi;have f0:=((zbo env c i true (by omega)).lend (zaJ (fun _=>rfl) _)).seen;have fI:=fun(k:Nat)=>zev env act k hl;have hK:=zbF h.toRight i true;have hKm: ∀j∈kidsL c i true,i<j/\j<c.states.length:=fun j hj=>by have:=zaG h.toRight (zao hj).1; omega
   unfold doneD;rw [zc5 hs,show kidZ c (i:Int)=zL (kidsL c i true) from rfl];generalize kidsL c i true=K at*;unfold chAV at f0 ih;by_cases k2:s.kind=2
   ·rw [if_pos k2];have b2:(s.kind==2)=true:=by simp [k2]
    have b1:(s.kind==1)=false:=by simp [k2]
    have b3:(s.kind==3)=false:=by simp [k2]
    refine qf func102 call102 ntmps102 results102 ?_;have F:=ai4 chAV.eq_1 stAV.eq_1 hs q0;repeat refine st ?_
    refine lL f0 ?_;repeat refine st ?_
    refine zab (D:=Nat) (fun j vs=>[(1, .seq 1 (act.map intAV)),(3, .loc 3 (vs 3) 0 0),(7, .loc 7 (vs 7) 0 0),(8, .seq 1 (K.map zae)),(9,I j)]) (fun j vs=>[(3,⟨5,[chAV c],26,false⟩),(7,⟨6,[stAV s],72,false⟩)]) (fun j _ esc=>j<=K.length/\((zL K).all fun k=>doneD c act f k)=((zL K).drop j).all fun k=>doneD c act f k) (fun j=>K.length-j) 0 ?_ ?_ ?_ ?_
    ·exact⟨Nat.zero_le _,rfl⟩
    ·exact qe
    ·exact qe
    rintro j ws es ⟨hj,heq⟩;by_cases hlt:j<K.length
    ·obtain⟨k,hx⟩: ∃k,K[j]? =some k:=⟨K[j],List.getElem?_eq_getElem hlt⟩;obtain⟨hk0,hk⟩:=hKm k (List.mem_of_getElem? hx);have q1:=nlt hlt;have q2:=zaa hlt (by omega);have f1:=ih k hk (by omega);rw [za0 (zkw hx),List.all_cons] at heq;cases hb:doneD c act f (k:Int) with
     | true=>
       rw [hb] at f1 heq;rw [Bool.true_and] at heq;have F:=ai8 chAV.eq_1 stAV.eq_1 zae.eq_1 hx q1 q2 b1 b2;repeat (first | refine st ?_ | refine cC f1 ?_)
       refine⟨j+1,⟨hlt,heq⟩, ?_, ?_,by omega⟩
       ·exact qe
       ·exact qe
     | false=>
       rw [hb] at f1 heq;rw [Bool.false_and] at heq;rw [heq];show awp _ _ _ _ _ _;have F:=ai8 chAV.eq_1 stAV.eq_1 zae.eq_1 hx q1 q2 b1 b2;repeat (first | refine st ?_ | refine cC f1 ?_)
       exact aR
    ·obtain rfl:j=K.length:=by omega
     have q1: ¬(K.length:Int)< (K.length:Int):=by omega
     rw [List.drop_of_length_le (by rw [zcj]; omega)] at heq;rw [heq];show awp _ _ _ _ _ _;have F:=ai4 stAV.eq_1 q1 b2 b3;repeat refine st ?_
     exact aR
   rw [if_neg k2];have b2:(s.kind==2)=false:=by simp [k2]
   by_cases k1:s.kind=1
   ·rw [if_pos k1];have b1:(s.kind==1)=true:=by simp [k1]
    have b3:(s.kind==3)=false:=by simp [k1]
    refine qf func102 call102 ntmps102 results102 ?_;have F:=ai4 chAV.eq_1 stAV.eq_1 hs q0;repeat refine st ?_
    refine lL f0 ?_;repeat refine st ?_
    refine zab (D:=Nat) (fun j vs=>[(1, .seq 1 (act.map intAV)),(3, .loc 3 (vs 3) 0 0),(7, .loc 7 (vs 7) 0 0),(8, .seq 1 (K.map zae)),(9,I j)]) (fun j vs=>[(3,⟨5,[chAV c],26,false⟩),(7,⟨6,[stAV s],72,false⟩)]) (fun j _ esc=>j<=K.length/\((zL K).any fun k=>act.contains k&&za7 c k==3)=((zL K).drop j).any fun k=>act.contains k&&za7 c k==3) (fun j=>K.length-j) 0 ?_ ?_ ?_ ?_
    ·exact⟨Nat.zero_le _,rfl⟩
    ·exact qe
    ·exact qe
    rintro j ws es ⟨hj,heq⟩;by_cases hlt:j<K.length
    ·obtain⟨k,hx⟩: ∃k,K[j]? =some k:=⟨K[j],List.getElem?_eq_getElem hlt⟩;obtain⟨_,hk⟩:=hKm k (List.mem_of_getElem? hx);obtain⟨t,ht⟩: ∃s,c.states[k]? =some s:=⟨c.states[k],List.getElem?_eq_getElem hk⟩;have q1:=nlt hlt;have q2:=zaa hlt (by omega);have q3:=nlt hk;have f1:=fI k;rw [za0 (zkw hx),List.any_cons,zc5 ht] at heq;cases hb:act.contains (k:Int) with
     | false=>
       rw [hb] at f1 heq;rw [Bool.false_and,Bool.false_or] at heq;have F:=ai10 chAV.eq_1 stAV.eq_1 zae.eq_1 ht hx q1 q2 q3 b1 b2;repeat (first | refine st ?_ | refine cC f1 ?_)
       refine⟨j+1,⟨hlt,heq⟩, ?_, ?_,by omega⟩
       ·exact qe
       ·exact qe
     | true=>
       rw [hb] at f1 heq;cases h3:t.kind==3 with
       | false=>
         rw [h3] at heq;rw [Bool.and_false,Bool.false_or] at heq;have F:=ai11 chAV.eq_1 stAV.eq_1 zae.eq_1 ht hx h3 q1 q2 q3 b1 b2;repeat (first | refine st ?_ | refine cC f1 ?_)
         refine⟨j+1,⟨hlt,heq⟩, ?_, ?_,by omega⟩
         ·exact qe
         ·exact qe
       | true=>
         rw [h3] at heq;rw [Bool.and_true,Bool.true_or] at heq;rw [heq];show awp _ _ _ _ _ _;have F:=ai11 chAV.eq_1 stAV.eq_1 zae.eq_1 ht hx h3 q1 q2 q3 b1 b2;repeat (first | refine st ?_ | refine cC f1 ?_)
         exact aR
    ·obtain rfl:j=K.length:=by omega
     have q1: ¬(K.length:Int)< (K.length:Int):=by omega
     rw [List.drop_of_length_le (by rw [zcj]; omega)] at heq;rw [heq];show awp _ _ _ _ _ _;simp only [List.any_nil];have F:=ai4 stAV.eq_1 q1 b2 b3;repeat refine st ?_
     exact aR
   ·rw [if_neg k1];have b1:(s.kind==1)=false:=by simp [k1]
    refine qf func102 call102 ntmps102 results102 ?_;have F:=ai4 chAV.eq_1 stAV.eq_1 hs q0;repeat refine st ?_
    refine lL f0 ?_;repeat refine st ?_
    refine zab (D:=Nat) (fun j vs=>[(1, .seq 1 (act.map intAV)),(3, .loc 3 (vs 3) 0 0),(7, .loc 7 (vs 7) 0 0),(8, .seq 1 (K.map zae)),(9,I j)]) (fun j vs=>[(3,⟨5,[chAV c],26,false⟩),(7,⟨6,[stAV s],72,false⟩)]) (fun j _ esc=>j<=K.length) (fun j=>K.length-j) 0 ?_ ?_ ?_ ?_
    ·exact Nat.zero_le _
    ·exact qe
    ·exact qe
    rintro j ws es hj;by_cases hlt:j<K.length
    ·have q1:=nlt hlt;have q2:=zaa hlt (by omega);have F:=ai6 chAV.eq_1 stAV.eq_1 q1 q2 b1 b2;repeat refine st ?_
     refine⟨j+1,hlt, ?_, ?_,by omega⟩
     ·exact qe
     ·exact qe
    ·obtain rfl:j=K.length:=by omega
     have q1: ¬(K.length:Int)< (K.length:Int):=by omega
     cases b3:s.kind==3 with
     | true=>
       have F:=ai4 stAV.eq_1 q1 b2 b3;repeat refine st ?_
       exact aR
     | false=>
       have F:=ai4 stAV.eq_1 q1 b2 b3;repeat refine st ?_
       exact aR
end
section
theorem zke (env:Env) (l:List Int) (p:Int->Bool) (g:FuncId) (G:Int) (te:TypeId) (hp: ∀d,Con prog env g [I d, .ref 1 [[I G]] 0 0] (B (p d))) (hl:l.length<=4096):
 ConI prog env 138 [1000,1001] (fun k=>k==1000) (fun vs=>[.row 1000 (vs 1000), .clo g [.loc 1001 (vs 1001) 0 0]]) (fun _=>[(1000,⟨1,l.map intAV,3,true⟩),(1001,⟨1,[[I G]],te,false⟩)]) (fun _=>[(1000,⟨1,(l.filter fun d=> !p d).map intAV,3,true⟩),(1001,⟨1,[[I G]],te,false⟩)]) (fun vs=> .row 1000 (vs 1000)):=by
 have f0:=(zlc env l p g [[I G]] hp hl).lend rfl;cases hi:idxQ p l with
 | none=>
   rw [hi] at f0;obtain⟨h1,_⟩:=zjF hi;rw [h1];refine qi func138 call138 ntmps138 results138 ?_;intro vs esc hesc;have e0:=hesc 1000 (by simp);have e1:=hesc 1001 (by simp);have F:=ai4 e0 e1 idxJ.eq_1 idxJ.eq_2;repeat refine st ?_
   refine lL f0 ?_;repeat refine st ?_
   exact rI
 | some i0=>
   rw [hi] at f0;obtain⟨h1,h2,d0,h3,h4⟩:=zjE hi;have g0:((i0:Int) == -1)=false:=by simp
   have g1:=zaa h1 (by omega);refine qi func138 call138 ntmps138 results138 ?_;intro vs esc hesc;have e0:=hesc 1000 (by simp);have e1:=hesc 1001 (by simp);have F:=ai6 e0 e1 idxJ.eq_1 idxJ.eq_2 g0 g1;repeat refine st ?_
   refine lL f0 ?_;repeat refine st ?_
   refine zab (D:=Nat×List Int) (fun x vs'=>[(0, .row 1000 (vs' 1000)),(1, .clo g [.loc 1001 (vs' 1001) 0 0]),(5,I (((l.take x.1).filter fun d=> !p d).length:Int)),(6,I (x.1:Int))]) (fun x vs'=>[(1000,⟨1,x.2.map intAV,3,true⟩),(1001,⟨1,[[I G]],te,false⟩)]) (fun x vs' esc'=>(x.1<=l.length/\x.2.length=l.length/\((l.take x.1).filter fun d=> !p d).length<x.1/\x.2.take ((l.take x.1).filter fun d=> !p d).length=(l.take x.1).filter (fun d=> !p d)/\x.2.drop x.1=l.drop x.1)/\vs' 1001=vs 1001/\esc' 1000=false/\esc' 1001=false) (fun x=>l.length-x.1) (i0+1,l) ?_ ?_ ?_ ?_
   ·have hq:(l.take (i0+1)).filter (fun d=> !p d)=l.take i0:=by
     rw [zbm h3,List.filter_append, <-h2];simp [h4]
    refine⟨⟨h1,rfl, ?_, ?_,rfl⟩,by simp only [go_sem],by simp only [go_sem,e0],by simp only [go_sem,e1]⟩
    ·rw [hq,List.length_take]; omega
    ·simp only;rw [hq,List.length_take,Nat.min_eq_left (by omega)]
   ·have hq:((l.take (i0+1)).filter fun d=> !p d).length=i0:=by
     rw [zbm h3,List.filter_append, <-h2];simp [h4];omega
    simp only [hq];exact qe
   ·exact qe
   try clear e0 e1 g0 g1 h1 h2 h3 h4 hi
   rintro⟨j,L⟩ ws es ⟨⟨hj,hL,hc,ht,hd⟩,v1,e0,e1⟩;simp only at hj hL hc ht hd;generalize hcn:((l.take j).filter fun d=> !p d).length=c at*;by_cases hlt:j<l.length
   ·obtain⟨d,hx⟩: ∃x,l[j]? =some x:=⟨l[j],List.getElem?_eq_getElem hlt⟩
    have hxL:L[j]? =some d:=by
     have:=congrArg (fun q:List Int=>q[0]?) hd;simpa [hx] using this
    have f1:=hp d;have g1:(j:Int)< (L.length:Int):=by omega
    have g2:=zaa hlt (by omega);have g3:=zbm hx;cases h1:p d
    ·rw [h1] at f1;obtain⟨y,hy⟩: ∃x,L[c]? =some x:=⟨L[c]'(by omega),List.getElem?_eq_getElem (by omega)⟩;have g4:(c:Int)< (L.length:Int):=by omega
     have g5:IntKind.i64.wrap ((c:Int)+1)=((c+1:Nat):Int):=zaa (show c<l.length by omega) (by omega);have hq:((l.take (j+1)).filter fun d=> !p d)=(l.take j).filter (fun d=> !p d)++[d]:=by rw [g3,List.filter_append]; simp [h1]
     have hs:(L.map intAV).set c [I d]=(L.set c d).map intAV:=by rw [List.map_set]
     have F:=ai9 hxL hy e0 e1 g1 g2 g4 g5 hs;repeat refine st ?_
     refine oL (zbi rfl (by simp only [go_sem,F]; exact iR)) (f1.lend rfl) (by simp only [go_sem,F]; exact iR) (by simp only [go_sem,F]; exact⟨rfl,rfl⟩) ?_;repeat refine st ?_
     refine⟨(j+1,L.set c d),⟨⟨hlt,by simpa using hL, ?_, ?_, ?_⟩, ?_, ?_, ?_⟩, ?_, ?_, ?_⟩
     ·simp only [hq,List.length_append,List.length_singleton,hcn]; omega
     ·simp only [hq,List.length_append,List.length_singleton,hcn];rw [<-ht];apply List.ext_getElem?;intro k;rw [List.getElem?_take,List.getElem?_set];by_cases hk:k<c
      ·rw [if_pos (by omega),if_neg (by omega),List.getElem?_append_left (by simp; omega),List.getElem?_take,if_pos hk]
      ·by_cases hk2:k=c
       ·subst hk2;rw [if_pos (by omega),if_pos rfl,if_pos (by omega),List.getElem?_append_right (by rw [List.length_take]; omega),List.length_take,Nat.min_eq_left (by omega)];simp
       ·rw [if_neg (by omega),List.getElem?_eq_none (by rw [List.length_append,List.length_take,List.length_singleton]; omega)]
     ·simp only;rw [List.drop_set_of_lt (by omega)];have:=congrArg (List.drop 1) hd;simpa [List.drop_drop] using this
     ·simp only [go_sem,v1]
     ·simp only [go_sem,e0]
     ·simp only [go_sem,e1]
     ·have hq2:((l.take (j+1)).filter fun d=> !p d).length=c+1:=by rw [hq,List.length_append,hcn]; rfl
      simp only [hq2];exact qe
     ·exact qe
     ·simp only; omega
    ·rw [h1] at f1;have hq:((l.take (j+1)).filter fun d=> !p d)=(l.take j).filter (fun d=> !p d):=by rw [g3,List.filter_append]; simp [h1]
     have F:=ai5 hxL e0 e1 g1 g2;repeat refine st ?_
     refine oL (zbi rfl (by simp only [go_sem,F]; exact iR)) (f1.lend rfl) (by simp only [go_sem,F]; exact iR) (by simp only [go_sem,F]; exact⟨rfl,rfl⟩) ?_;repeat refine st ?_
     refine⟨(j+1,L),⟨⟨hlt,hL, ?_, ?_, ?_⟩, ?_, ?_, ?_⟩, ?_, ?_, ?_⟩
     ·simp only [hq,hcn]; omega
     ·simp only [hq,hcn]; exact ht
     ·simp only;have:=congrArg (List.drop 1) hd;simpa [List.drop_drop] using this
     ·simp only [go_sem,v1]
     ·simp only [go_sem,e0]
     ·simp only [go_sem,e1]
     ·simp only [hq,hcn];exact qe
     ·exact qe
     ·simp only; omega
   ·have g1: ¬(j:Int)< (L.length:Int):=by omega
    have hjl:l.take j=l:=List.take_of_length_le (by omega);rw [hjl] at ht hcn;have g4:(c:Int)<=(L.length:Int):=by omega
    have g5:c<=L.length:=by omega
    have g6: ∀X:List (List AV),((L.take c).map intAV++X).take c=(l.filter fun d=> !p d).map intAV:=fun X=>by
     rw [List.take_left' (by rw [List.length_map,List.length_take]; omega),ht]
    have g7:c+(L.length-c)=L.length:=by omega
    have g8:min c L.length=c:=by omega
    have F:=ai11 v1 e0 e1 @List.length_take.{0} @List.length_replicate.{0} g1 g4 g5 g6 g7 g8;repeat refine st ?_
    exact rI
end
section
theorem zqC {c:ChD} (h:Full c) {k:Nat} {s:StD} (hs:c.states[k]? =some s):(s.out.length<=32/\ ∀a∈s.out,actB c.vars.length c.states.length a=true)/\s.inn.length<=32/\ ∀a∈s.inn,actB c.vars.length c.states.length a=true:=by
 have hk:=h.st k s hs;unfold zaq zbq at hk;simp only [Bool.and_eq_true,decide_eq_true_eq,List.all_eq_true] at hk;exact⟨⟨hk.2.1,hk.2.2⟩,hk.1.2.1,hk.1.2.2⟩
end

end Go.Proofs.YtbpmkofnfgdegaaGreatDoor