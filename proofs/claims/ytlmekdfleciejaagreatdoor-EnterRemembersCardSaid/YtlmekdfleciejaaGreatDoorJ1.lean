/- YtlmekdfleciejaaGreatDoorJ1 -/
import Derived.Test.YtlmekdfleciejaaGreatDoorD4
import Derived.Test.YtlmekdfleciejaaGreatDoorD27
import Derived.Test.YtlmekdfleciejaaGreatDoorD34
import Derived.Test.YtlmekdfleciejaaGreatDoorD38
import Derived.Test.YtlmekdfleciejaaGreatDoorD39
import Derived.Test.YtlmekdfleciejaaGreatDoorD47
set_option maxRecDepth 100000
set_option maxHeartbeats 8000000
set_option linter.unusedSimpArgs false
namespace Go.Proofs.YtlmekdfleciejaaGreatDoor
open Go.RowKit
section
section
variable {P:Program} {x:Ctx} {s:St} {a:Act} {w:World} {m:Mem} {o:Oper} {out:Out}
end
/-! Results that lean on no memory -/
end
section
/-! Where code is walked: in a function's frame, or in a round of a range over a function -/
section
variable {P:Program} {ro:Option Nat}
end
section
variable {P:Program} {x:Ctx} {s s':St} {a:Act} {w:World} {m:Mem} {o:Oper} {ops:Array Oper} {Q:Exit->Act->World->Prop} {ro:Option Nat}
end
/-! Operations change places -/
end
section
section
variable {P:Program} {env:Env} {ops:Array Oper} {F:Nat->Foot}
/-! Which operations are ahead of which -/
end
/-! The region's laws -/
section
variable {P:Program} {x:Ctx} {ops:Array Oper} {Q:Exit->Act->World->Prop} {s s':St} {a:Act} {w:World} {m:Mem}
end
end
section
section
variable {P:Program} {env:Env} {nt:Nat} {Q:Exit->St->Prop} {s:St}
end
/-! Regions -/
section
variable {P:Program} {env:Env} {nt:Nat} {Q:Exit->St->Prop} {s:St} {ops:Array Oper}
/-! One operation -/
end
/-! A function -/
section
variable {P:Program} {x:Ctx} {s:St} {a:Act} {w:World} {m:Mem}
end
end
section
section
variable {P:Program} {env:Env} {f:Nat->AV} {d:Option Nat} {ty:TypeId} {ps:String} {af:Array Edge} {g:Option (Nat×Bool)}
end
section
variable {P:Program} {env:Env} {s:St}
end
end
section
section
variable {P:Program} {env:Env} {nt:Nat} {Q:Exit->St->Prop} {s:St}
end
section
variable {P:Program} {env:Env} {nt:Nat} {Q:Exit->St->Prop} {s:St}
end
end
section
section
variable {P:Program} {env:Env} {s:St}
theorem callOf_tmp {env:Env} {o:Oper} {f:Nat->AV} {t g:Nat} {aa:Array Operand} {ts:Array TypeId} (ho:o.op= .call { callee:= .value (.tmp t),args:=aa,argTypes:=ts }) (hf:Is (f t) (.lit (.func (.func g) #[] #[]))):zaN env f o=some (g,aa.toList.map (gt env f)):=by
 unfold zaN
 rw [ho]
 simp only
 rw [show f t= .lit (.func (.func g) #[] #[]) from hf]
end
section
variable {P:Program} {env:Env} {nt:Nat} {Q:Exit->St->Prop} {s:St}
end
end
section
section
variable {P:Program} {env:Env} {f:FuncId} {cs cs':List AV} {res res':AV}
end
section
variable {P:Program} {env:Env} {nt:Nat} {s:St}
end
/-! The rules that ask what evaluation shows. -/
section
variable {P:Program} {env:Env} {nt:Nat} {Q:Exit->St->Prop} {s:St}
end
end
section
theorem lg_iff {c:ChD} {act:List Int} :lgB c act=true↔(∀n,n<act.length->lgAt c act n=true)/\manyI act (kidsL c (-1) true)=1:=by
 unfold lgB ziO
 cases h:zax (lgAt c act) act.length with
 | some n=>
   refine⟨fun e=>by simp at e,fun e=> ?_⟩
   rw [zaH e.1] at h
   cases h
 | none=>
   simp only
   split
   ·rename_i e
    exact⟨fun _=>⟨fun n hn=>zbQ h n hn,e⟩,fun _=>rfl⟩
   ·rename_i e
    exact⟨fun e2=>by simp at e2,fun e2=>absurd e2.2 e⟩
/-! What is active at first -/
theorem rises {p:Nat->Bool} {n:Nat} :((List.range n).filter p).Pairwise (· < ·):=List.Pairwise.sublist List.filter_sublist List.pairwise_lt_range
/-! What begins is few -/
end
section
theorem pfilter_succ (p:Nat->Bool) (j:Nat):(List.range (j+1)).filter p=if p j then(List.range j).filter p++[j] else(List.range j).filter p:=by
 rw [List.range_succ,List.filter_append]
 cases hb:p j<;>simp [hb]
theorem pfilter_len (p:Nat->Bool) (j:Nat):((List.range j).filter p).length<=j:=Nat.le_trans (List.length_filter_le ..) (by simp)
end
section
def riseL (c:ChD) (l:List Nat):List Nat:=(List.range c.states.length).filter fun k=>inL l (k:Int)
theorem inL_mem {l:List Nat} {k:Nat} :inL l (k:Int)=true↔k∈l:=by
 rw [zhV]
 constructor
 ·rintro⟨j,h1,h2⟩
  have:j=k:=by omega
  exact this ▸ h1
 ·exact fun h=>⟨k,h,rfl⟩
theorem rise_mem {c:ChD} {l:List Nat} {k:Nat} :k∈riseL c l↔k<c.states.length/\k∈l:=by
 unfold riseL
 rw [List.mem_filter,List.mem_range,inL_mem]
/-! One more is none -/
end
section
theorem rFits29_con (env:Env) (c:ChD) (h:Full c) (act:List Int) (hl:act.length<=1000000) (k:Nat) (s:StD) (hs:c.states[k]? =some s):Con Tryz.prog env 121 [.agg (chAV c), .seq 1 (act.map intAV),I k] (B (fitB c act k s)):=by
 have hlen:=h.few
 have hi:=(List.getElem?_eq_some_iff.1 hs).1
 have q0:((k:Nat):Int)< (c.states.length:Int):=by omega
 have f0:=zbw env c k true (by omega)
 have hK:=zbz h.toRight k true
 have f1:=ziz env act (kidsL c k true) hl (by omega)
 have f2:=za1 env s
 have f3:=zdF env act s.parent hl
 have hF:fitB c act k s=(!zat s&&(decide (s.parent<0)||act.contains s.parent)&&(if s.kind=1/\kidsL c k true≠[] then manyI act (kidsL c k true)==1 else if s.kind=2 then manyI act (kidsL c k true)==(kidsL c k true).length else true)):=rfl
 rw [hF]
 try clear hF
 generalize kidsL c k true=K at*
 cases hm:zat s with
 | true=>
   rw [hm] at f2
   refine zaa Tryz.func121 rfl Tryz.call121 (by rw [Tryz.ntmps121]; simp) ?_
   rw [Tryz.ntmps121,Tryz.results121]
   have F:=ai chAV.eq_1<|ai stAV.eq_1<|ai hs<|q0
   repeat (first | refine st ?_ | refine cC f2 ?_)
   exact aR
 | false=>
   rw [hm] at f2
   by_cases hp:s.parent<0
   ·have g0: ¬0<=s.parent:=by omega
    rw [decide_eq_true hp]
    by_cases e1:s.kind=1/\K≠[]
    ·have b1:(s.kind==1)=true:=by simpa using e1.1
     have q1:(0:Int)< (K.length:Int):=by have:=List.length_pos_iff.2 e1.2; omega
     have q2:(((manyI act K:Nat):Int)==1)=(manyI act K==1):=by rw [Bool.eq_iff_iff,beq_iff_eq,beq_iff_eq]; omega
     rw [if_pos e1]
     refine zaa Tryz.func121 rfl Tryz.call121 (by rw [Tryz.ntmps121]; simp) ?_
     rw [Tryz.ntmps121,Tryz.results121]
     have F:=ai chAV.eq_1<|ai stAV.eq_1<|ai hs<|ai q0<|ai g0<|ai b1<|ai q1<|q2
     repeat (first | refine st ?_ | refine cC f0 ?_ | refine cC f1 ?_ | refine cC f2 ?_)
     exact aR
    ·rw [if_neg e1]
     have q2:(((manyI act K:Nat):Int)==(K.length:Int))=(manyI act K==K.length):=by rw [Bool.eq_iff_iff,beq_iff_eq,beq_iff_eq]; omega
     by_cases e2:s.kind=2
     ·have b1:(s.kind==1)=false:=by simp [e2]
      have b2:(s.kind != 2)=false:=by simp [e2]
      rw [if_pos e2]
      refine zaa Tryz.func121 rfl Tryz.call121 (by rw [Tryz.ntmps121]; simp) ?_
      rw [Tryz.ntmps121,Tryz.results121]
      have F:=ai chAV.eq_1<|ai stAV.eq_1<|ai hs<|ai q0<|ai g0<|ai b1<|ai b2<|q2
      repeat (first | refine st ?_ | refine cC f0 ?_ | refine cC f1 ?_ | refine cC f2 ?_)
      exact aR
     ·have b2:(s.kind != 2)=true:=by simpa using e2
      rw [if_neg e2]
      by_cases e3:s.kind=1
      ·have b1:(s.kind==1)=true:=by simpa using e3
       have q1: ¬(0:Int)< (K.length:Int):=by
        have:K=[]:=Classical.byContradiction fun q=>e1 ⟨e3,q⟩
        rw [this]; simp
       refine zaa Tryz.func121 rfl Tryz.call121 (by rw [Tryz.ntmps121]; simp) ?_
       rw [Tryz.ntmps121,Tryz.results121]
       have F:=ai chAV.eq_1<|ai stAV.eq_1<|ai hs<|ai q0<|ai g0<|ai b1<|ai b2<|q1
       repeat (first | refine st ?_ | refine cC f0 ?_ | refine cC f1 ?_ | refine cC f2 ?_)
       exact aR
      ·have b1:(s.kind==1)=false:=by simpa using e3
       refine zaa Tryz.func121 rfl Tryz.call121 (by rw [Tryz.ntmps121]; simp) ?_
       rw [Tryz.ntmps121,Tryz.results121]
       have F:=ai chAV.eq_1<|ai stAV.eq_1<|ai hs<|ai q0<|ai g0<|ai b1<|b2
       repeat (first | refine st ?_ | refine cC f0 ?_ | refine cC f1 ?_ | refine cC f2 ?_)
       exact aR
   ·have g0:0<=s.parent:=by omega
    rw [decide_eq_false hp]
    cases hin:act.contains s.parent with
    | false=>
      rw [hin] at f3
      refine zaa Tryz.func121 rfl Tryz.call121 (by rw [Tryz.ntmps121]; simp) ?_
      rw [Tryz.ntmps121,Tryz.results121]
      have F:=ai chAV.eq_1<|ai stAV.eq_1<|ai hs<|ai q0<|g0
      repeat (first | refine st ?_ | refine cC f0 ?_ | refine cC f1 ?_ | refine cC f2 ?_ | refine cC f3 ?_)
      exact aR
    | true=>
      rw [hin] at f3
      by_cases e1:s.kind=1/\K≠[]
      ·have b1:(s.kind==1)=true:=by simpa using e1.1
       have q1:(0:Int)< (K.length:Int):=by have:=List.length_pos_iff.2 e1.2; omega
       have q2:(((manyI act K:Nat):Int)==1)=(manyI act K==1):=by rw [Bool.eq_iff_iff,beq_iff_eq,beq_iff_eq]; omega
       rw [if_pos e1]
       refine zaa Tryz.func121 rfl Tryz.call121 (by rw [Tryz.ntmps121]; simp) ?_
       rw [Tryz.ntmps121,Tryz.results121]
       have F:=ai chAV.eq_1<|ai stAV.eq_1<|ai hs<|ai q0<|ai g0<|ai b1<|ai q1<|q2
       repeat (first | refine st ?_ | refine cC f0 ?_ | refine cC f1 ?_ | refine cC f2 ?_ | refine cC f3 ?_)
       exact aR
      ·rw [if_neg e1]
       have q2:(((manyI act K:Nat):Int)==(K.length:Int))=(manyI act K==K.length):=by rw [Bool.eq_iff_iff,beq_iff_eq,beq_iff_eq]; omega
       by_cases e2:s.kind=2
       ·have b1:(s.kind==1)=false:=by simp [e2]
        have b2:(s.kind != 2)=false:=by simp [e2]
        rw [if_pos e2]
        refine zaa Tryz.func121 rfl Tryz.call121 (by rw [Tryz.ntmps121]; simp) ?_
        rw [Tryz.ntmps121,Tryz.results121]
        have F:=ai chAV.eq_1<|ai stAV.eq_1<|ai hs<|ai q0<|ai g0<|ai b1<|ai b2<|q2
        repeat (first | refine st ?_ | refine cC f0 ?_ | refine cC f1 ?_ | refine cC f2 ?_ | refine cC f3 ?_)
        exact aR
       ·have b2:(s.kind != 2)=true:=by simpa using e2
        rw [if_neg e2]
        by_cases e3:s.kind=1
        ·have b1:(s.kind==1)=true:=by simpa using e3
         have q1: ¬(0:Int)< (K.length:Int):=by
          have:K=[]:=Classical.byContradiction fun q=>e1 ⟨e3,q⟩
          rw [this]; simp
         refine zaa Tryz.func121 rfl Tryz.call121 (by rw [Tryz.ntmps121]; simp) ?_
         rw [Tryz.ntmps121,Tryz.results121]
         have F:=ai chAV.eq_1<|ai stAV.eq_1<|ai hs<|ai q0<|ai g0<|ai b1<|ai b2<|q1
         repeat (first | refine st ?_ | refine cC f0 ?_ | refine cC f1 ?_ | refine cC f2 ?_ | refine cC f3 ?_)
         exact aR
        ·have b1:(s.kind==1)=false:=by simpa using e3
         refine zaa Tryz.func121 rfl Tryz.call121 (by rw [Tryz.ntmps121]; simp) ?_
         rw [Tryz.ntmps121,Tryz.results121]
         have F:=ai chAV.eq_1<|ai stAV.eq_1<|ai hs<|ai q0<|ai g0<|ai b1<|b2
         repeat (first | refine st ?_ | refine cC f0 ?_ | refine cC f1 ?_ | refine cC f2 ?_ | refine cC f3 ?_)
         exact aR
def riseTo (l:List Nat) (j:Nat):List Nat:=(List.range j).filter fun k=>inL l (k:Int)
theorem rising_con (env:Env) (c:ChD) (hc:c.states.length<=4000) (l:List Nat) (hl:l.length<=1000000):Con Tryz.prog env 117 [.agg (chAV c), .seq 1 (l.map zae)] (.own 3 1 ((riseL c l).map zae)):=by
 show Con _ _ _ _ (.own _ 1 ((riseTo l c.states.length).map zae))
 refine zaa Tryz.func117 rfl Tryz.call117 (by rw [Tryz.ntmps117]; simp) ?_
 rw [Tryz.ntmps117,Tryz.results117]
 have F:=chAV.eq_1
 repeat refine st ?_
 refine zab (D:=Nat) (fun j vs=>[(1, .seq 1 (l.map zae)),(2, .loc 2 (vs 2) 0 0),(5, .row 7 (vs 7)),(6,I j)]) (fun j _=>[(2,⟨5,[chAV c],26,false⟩),(7,⟨1,(riseTo l j).map zae,3,true⟩)]) (fun j _ esc=>j<=c.states.length/\esc 7=false) (fun j=>c.states.length-j) 0 ?_ ?_ ?_ ?_
 ·exact⟨Nat.zero_le _,rfl⟩
 ·(simp only [go_sem,F])
 ·have F:=chAV.eq_1
  (simp only [go_sem,F])
  try rfl
 rintro j ws esc ⟨hj,e0⟩
 by_cases hlt:j<c.states.length
 ·have g1:=nlt hlt
  have g2:=zac hlt (by omega)
  have f1:=zhM env l j hl
  unfold nsAV at f1
  have hn:riseTo l (j+1)=if inL l (j:Int) then riseTo l j++[j] else riseTo l j:=pfilter_succ (fun k:Nat=>inL l (k:Int)) j
  have hle:(riseTo l j).length<=j:=pfilter_len (fun k:Nat=>inL l (k:Int)) j
  have hf:Fits ((riseTo l j).length+1) 8:=zah (by omega) (by omega)
  cases b1:inL l (j:Int) with
  | true=>
    rw [b1] at f1 hn
    rw [if_pos rfl] at hn
    have F:=ai chAV.eq_1<|ai zae.eq_1<|ai g1<|ai g2<|ai hf<|e0
    repeat (first | refine st ?_ | refine cC f1 ?_)
    refine⟨j+1,⟨hlt,by simp only [go_sem,e0]⟩, ?_, ?_,by omega⟩
    ·(simp only [go_sem,F])
    ·have F:=ai chAV.eq_1<|ai zae.eq_1<|hn
     (simp only [go_sem,List.map_append,F])
  | false=>
    rw [b1] at f1 hn
    rw [if_neg Bool.false_ne_true] at hn
    have F:=ai chAV.eq_1<|ai zae.eq_1<|ai g1<|ai g2<|e0
    repeat (first | refine st ?_ | refine cC f1 ?_)
    refine⟨j+1,⟨hlt,by simp only [go_sem,e0]⟩, ?_, ?_,by omega⟩
    ·(simp only [go_sem,F])
    ·have F:=ai chAV.eq_1<|ai zae.eq_1<|hn
     (simp only [go_sem,F])
 ·obtain rfl:j=c.states.length:=by omega
  have g1: ¬(c.states.length:Int)< (c.states.length:Int):=by omega
  have F:=ai chAV.eq_1<|ai g1<|e0
  repeat refine st ?_
  exact aR
end
section
theorem rCheck29g_con (env:Env) (c:ChD) (h:Full c) (act:List Int) (hl:act.length<=1000000):Con Tryz.prog env 69 [.agg (chAV c), .seq 1 (act.map intAV)] (.tuple [I (ziO c act).1,I (ziO c act).2]):=by
 have hlen:=h.few
 have f3:=zbw env c (-1) true (by omega)
 have hK:=zbz h.toRight (-1) true
 have f4:=ziz env act (kidsL c (-1) true) hl (by omega)
 refine zaa Tryz.func69 rfl Tryz.call69 (by rw [Tryz.ntmps69]; simp) ?_
 rw [Tryz.ntmps69,Tryz.results69]
 have F:=chAV.eq_1
 repeat refine st ?_
 refine zab (D:=Nat) (fun j vs=>[(1, .seq 1 (act.map intAV)),(2, .loc 2 (vs 2) 0 0),(6,I j)]) (fun _ _=>[(2,⟨5,[chAV c],26,false⟩)]) (fun j _ _=>j<=act.length/\ ∀m,m<j->lgAt c act m=true) (fun j=>act.length-j) 0 ?_ ?_ ?_ ?_
 ·exact⟨Nat.zero_le _,fun m hm=>absurd hm (by omega)⟩
 ·(simp only [go_sem,F])
 ·have F:=chAV.eq_1
  (simp only [go_sem,F])
  try rfl
 rintro j ws esc ⟨hj,hall⟩
 by_cases hlt:j<act.length
 ·obtain⟨x,hx⟩: ∃x,act[j]? =some x:=⟨act[j],List.getElem?_eq_getElem hlt⟩
  have q1:=nlt hlt
  have q2:=zac hlt (by omega)
  have q6:max x (-1)=if x< -1 then -1 else x:=by split<;>omega
  have hat:=zqt (c:=c) hx
  have f0:=zka env c x
  have bad:lgAt c act j=false->ziO c act=(1,max x (-1)):=fun hb=>zmf hx hall hb
  cases hz:inZ c x with
  | false=>
    rw [hz] at f0
    rw [bad (by rw [hat,zli hz,Bool.and_false])]
    have F:=ai chAV.eq_1<|ai hx<|ai q1<|q6
    repeat (first | refine st ?_ | refine cC f0 ?_)
    exact aR
  | true=>
    rw [hz] at f0
    obtain⟨k,s,rfl,hs,ha⟩:=zb0 hz
    have f2:=rFits29_con env c h act hl k s hs
    rw [zpw hs] at hat
    by_cases hj0:0<j
    ·have q3:(0:Int)< (j:Int):=by omega
     have q4:IntKind.i64.wrap ((j:Int)-1)=((j-1:Nat):Int):=by rw [zbU (by omega) (by omega)]; omega
     have hy:=zqo hj0 hlt
     have q5:((j-1:Nat):Int)< (act.length:Int):=by omega
     have b0:(j==0)=false:=by simp; omega
     generalize act.getD (j-1) 0=y at*
     by_cases h2:(k:Int)<=y
     ·rw [bad (by rw [hat,b0,decide_eq_false (by omega)]; rfl)]
      have F:=ai chAV.eq_1<|ai hx<|ai q1<|ai q3<|ai q4<|ai q5<|ai q6<|ai hy<|h2
      repeat (first | refine st ?_ | refine cC f0 ?_)
      exact aR
     cases hb:fitB c act k s with
     | false=>
       rw [hb] at f2 hat
       rw [bad (by rw [hat,Bool.and_false])]
       have F:=ai chAV.eq_1<|ai hx<|ai q1<|ai q3<|ai q4<|ai q5<|ai q6<|ai hy<|h2
       repeat (first | refine st ?_ | refine cC f0 ?_ | refine cC f2 ?_)
       exact aR
     | true=>
       rw [hb,b0,decide_eq_true (show y< (k:Int) by omega)] at hat
       rw [hb] at f2
       have F:=ai chAV.eq_1<|ai hx<|ai q1<|ai q2<|ai q3<|ai q4<|ai q5<|ai hy<|h2
       repeat (first | refine st ?_ | refine cC f0 ?_ | refine cC f2 ?_)
       refine⟨j+1,⟨hlt,fun m hm=>by rcases Nat.lt_succ_iff_lt_or_eq.1 hm with e | e; exact hall m e; rw [e]; exact hat⟩, ?_, ?_,by omega⟩
       ·(simp only [go_sem,F])
       ·have F:=chAV.eq_1
        (simp only [go_sem,F])
    ·have q3: ¬(0:Int)< (j:Int):=by omega
     have b0:(j==0)=true:=by simp; omega
     cases hb:fitB c act k s with
     | false=>
       rw [hb,b0] at hat
       rw [hb] at f2
       rw [bad (by rw [hat,Bool.and_false])]
       have F:=ai chAV.eq_1<|ai hx<|ai q1<|ai q3<|q6
       repeat (first | refine st ?_ | refine cC f0 ?_ | refine cC f2 ?_)
       exact aR
     | true=>
       rw [hb,b0] at hat
       rw [hb] at f2
       have F:=ai chAV.eq_1<|ai hx<|ai q1<|ai q2<|q3
       repeat (first | refine st ?_ | refine cC f0 ?_ | refine cC f2 ?_)
       refine⟨j+1,⟨hlt,fun m hm=>by rcases Nat.lt_succ_iff_lt_or_eq.1 hm with e | e; exact hall m e; rw [e]; exact hat⟩, ?_, ?_,by omega⟩
       ·(simp only [go_sem,F])
       ·have F:=chAV.eq_1
        (simp only [go_sem,F])
 ·obtain rfl:j=act.length:=by omega
  have q1: ¬(act.length:Int)< (act.length:Int):=by omega
  have hc1:ziO c act=if manyI act (kidsL c (-1) true)=1 then(0, -1) else(1, -1):=by
   unfold ziO
   rw [zaH hall]
  rw [hc1]
  by_cases hm:manyI act (kidsL c (-1) true)=1
  ·rw [if_pos hm]
   have hmi:((manyI act (kidsL c (-1) true):Nat):Int)=1:=by omega
   have F:=ai chAV.eq_1<|ai q1<|hmi
   repeat (first | refine st ?_ | refine cC f3 ?_ | refine cC f4 ?_)
   exact aR
  ·rw [if_neg hm]
   have hmi:(((manyI act (kidsL c (-1) true):Nat):Int) != 1)=true:=by simp; omega
   have F:=ai chAV.eq_1<|ai q1<|hmi
   repeat (first | refine st ?_ | refine cC f3 ?_ | refine cC f4 ?_)
   exact aR
end
section
/-! Legal states -/
theorem nat_rise {l:List Int} (h: ∀j,0<j->j<l.length->l.getD (j-1) 0<l.getD j 0):l.Pairwise (· < ·):=by
 rw [List.pairwise_iff_getElem]
 intro i j hi hj hij
 have key: ∀d,i+d+1<l.length->l.getD i 0<l.getD (i+d+1) 0:=fun d=>by
  induction d with
  | zero=>intro hd; simpa using h (i+1) (by omega) (by omega)
  | succ d ih=>
    intro hd
    have h1:=ih (by omega)
    have h2:=h (i+d+1+1) (by omega) (by omega)
    have e:i+(d+1)+1=i+d+1+1:=by omega
    rw [e]
    simp only [Nat.add_sub_cancel] at h2
    omega
 have:=key (j-i-1) (by omega)
 rw [show i+(j-i-1)+1=j by omega] at this
 simpa [List.getD_eq_getElem?_getD,List.getElem?_eq_getElem hi,List.getElem?_eq_getElem hj] using this
theorem lg_out {c:ChD} {act:List Int} (h:lgB c act=true):Lg c act:=by
 obtain⟨h1,h2⟩:=lg_iff.1 h
 have h3: ∀j (hj:j<act.length),(j==0||decide (act.getD (j-1) 0<act[j]))=true/\fitI c act act[j]=true:=fun j hj=>by
  have:=h1 j hj
  unfold lgAt at this
  rw [List.getElem?_eq_getElem hj] at this
  simpa only [Bool.and_eq_true] using this
 refine⟨nat_rise fun j h0 hj=> ?_,fun x hx=> ?_,h2⟩
 ·have:=(h3 j hj).1
  have hne:(j==0)=false:=by simp; omega
  rw [hne,Bool.false_or,decide_eq_true_eq] at this
  simpa [List.getD_eq_getElem?_getD,List.getElem?_eq_getElem hj] using this
 ·obtain⟨j,hj,rfl⟩:=List.mem_iff_getElem.1 hx
  have:=(h3 j hj).2
  unfold fitI at this
  split at this
  ·rename_i s hs; exact⟨s,hs,this⟩
  ·cases this
theorem Lg.nodup {c:ChD} {act:List Int} (h:Lg c act):act.Nodup:=h.rise.imp fun h=>by omega
theorem sort_memI {c:ChD} (hr:Right c) {l:List Int} (hl: ∀x∈l,inZ c x=true) {x:Int} :x∈zL (sortL c l)↔x∈l:=by
 have ha:l.all (inZ c)=true:=List.all_eq_true.2 hl
 unfold sortL
 rw [if_pos ha]
 constructor
 ·intro hx
  obtain⟨k,hk,rfl⟩:=List.mem_map.1 hx
  simpa using (List.mem_filter.1 hk).2
 ·intro hx
  have hz:=zag.1 (hl x hx)
  refine List.mem_map.2 ⟨x.toNat,List.mem_filter.2 ⟨?_, ?_⟩,by omega⟩
  ·exact(zkL hr _).2 (by omega)
  ·have e:((x.toNat:Nat):Int)=x:=by omega
   rw [e]
   simpa using hx
/-! Memories in their order -/
def putM:List MemD->MemD->List MemD
 | [],m=>[m]
 | x::r,m=>if x.1<m.1 then x::putM r m else if x.1=m.1 then m::r else m::x::r
theorem putM_mem {m p:MemD} : ∀ {l:List MemD},Srt l->(p∈putM l m↔p=m\/(p∈l/\p.1≠m.1))
 | [],_=>by simp [putM]
 | x::r,h=>by
   obtain⟨h1,h2⟩:=List.pairwise_cons.1 h
   unfold putM
   split
   ·rename_i hlt
    rw [List.mem_cons,putM_mem h2,List.mem_cons]
    constructor
    ·rintro(rfl | rfl | ⟨a,b⟩)
     ·exact .inr ⟨.inl rfl,by omega⟩
     ·exact .inl rfl
     ·exact .inr ⟨.inr a,b⟩
    ·rintro(rfl | ⟨rfl | a,b⟩)
     ·exact .inr (.inl rfl)
     ·exact .inl rfl
     ·exact .inr (.inr ⟨a,b⟩)
   ·split
    ·rename_i he
     rw [List.mem_cons,List.mem_cons]
     constructor
     ·rintro(rfl | a)
      ·exact .inl rfl
      ·exact .inr ⟨.inr a,by have:=h1 p a; omega⟩
     ·rintro(rfl | ⟨rfl | a,b⟩)
      ·exact .inl rfl
      ·exact absurd he b
      ·exact .inr a
    ·rename_i hn he
     rw [List.mem_cons,List.mem_cons]
     constructor
     ·rintro(rfl | rfl | a)
      ·exact .inl rfl
      ·exact .inr ⟨.inl rfl,by omega⟩
      ·exact .inr ⟨.inr a,by have:=h1 p a; omega⟩
     ·rintro(rfl | ⟨rfl | a,b⟩)
      ·exact .inl rfl
      ·exact .inr (.inl rfl)
      ·exact .inr (.inr a)
theorem putM_srt {m:MemD} : ∀ {l:List MemD},Srt l->Srt (putM l m)
 | [],_=>by simp [putM,Srt]
 | x::r,h=>by
   obtain⟨h1,h2⟩:=List.pairwise_cons.1 h
   unfold putM
   split
   ·rename_i hlt
    refine List.pairwise_cons.2 ⟨fun p hp=> ?_,putM_srt h2⟩
    rcases (putM_mem h2).1 hp with rfl | ⟨a,_⟩
    ·exact hlt
    ·exact h1 p a
   ·split
    ·rename_i he
     exact List.pairwise_cons.2 ⟨fun p hp=>by have:=h1 p hp; omega,h2⟩
    ·refine List.pairwise_cons.2 ⟨fun p hp=> ?_,h⟩
     rcases List.mem_cons.1 hp with rfl | hp
     ·omega
     ·have:=h1 p hp; omega
theorem srt_ext {a b:List MemD} (ha:Srt a) (hb:Srt b) (h: ∀p,p∈a↔p∈b):a=b:=by
 have na:a.Nodup:=ha.imp fun h e=>by rw [e] at h; omega
 have nb:b.Nodup:=hb.imp fun h e=>by rw [e] at h; omega
 exact List.Perm.eq_of_pairwise (fun x y _ _ h1 h2=>by omega) ha hb ((List.perm_ext_iff_of_nodup na nb).2 h)
/-! What is remembered -/
def underL (c:ChD) (l:List Int) (i:Int):List Int:=l.filter (aboveB c i)
def innerP (c:ChD) (l:List Int) (i:Int):Bool:= !(kidZ c i).any fun k=>l.contains k
def innerL (c:ChD) (l:List Int):List Int:=zeK (l.filter (innerP c l))
def lastKid (c:ChD) (act:List Int) (i:Int):List Int:=match ((kidZ c i).filter fun k=>act.contains k).getLast? with
 | some k=>[k]
 | none=>[]
def newV (c:ChD) (act:List Int) (i:Int) (h:Nat):List Int:=match c.states[h]? with
 | some s=>if s.kind=5 then innerL c (underL c act i) else lastKid c act i
 | none=>[]
def memTo_ (c:ChD) (act:List Int) (i:Int) (o:List MemD) (M:List Nat) (m:Nat):List MemD:=(M.take m).foldl (fun o (h:Nat)=>putM o ((h:Int),newV c act i h)) o
def remTo (c:ChD) (act gone:List Int) (o:List MemD) (j:Nat):List MemD:=(gone.take j).foldl (fun o i=>if zaL c i=true then memTo_ c act i o (memL c i) (memL c i).length else o) o
def remL (c:ChD) (act gone:List Int) (mem:List MemD):List MemD:=remTo c act gone mem gone.length
theorem memTo__of {c:ChD} {act:List Int} {i:Int} {M:List Nat} : ∀(m:Nat) {o:List MemD},m<=M.length->Srt o->Srt (memTo_ c act i o M m)/\ ∀p,p∈memTo_ c act i o M m↔(∃h∈M.take m,p=((h:Int),newV c act i h))\/(p∈o/\ ∀h∈M.take m,p.1≠(h:Int))
 | 0,o,_,hs=>⟨hs,fun p=>by simp [memTo_]⟩
 | m+1,o,hm,hs=>by
   obtain⟨k,hk⟩: ∃k,M[m]? =some k:=⟨M[m],List.getElem?_eq_getElem (by omega)⟩
   obtain⟨q1,q2⟩:=memTo__of (c:=c) (act:=act) (i:=i) (M:=M) m (o:=o) (by omega) hs
   have e:memTo_ c act i o M (m+1)=putM (memTo_ c act i o M m) ((k:Int),newV c act i k):=zdK _ _ hk
   have e2: ∀x,x∈M.take (m+1)↔x∈M.take m\/x=k:=fun x=>by rw [List.take_add_one,hk]; simp
   rw [e]
   refine⟨putM_srt q1,fun p=> ?_⟩
   rw [putM_mem q1,q2]
   simp only [e2]
   constructor
   ·rintro(rfl | ⟨⟨h,a,rfl⟩ | ⟨a,b⟩,d⟩)
    ·exact .inl ⟨k, .inr rfl,rfl⟩
    ·exact .inl ⟨h, .inl a,rfl⟩
    ·exact .inr ⟨a,fun h hh=>hh.elim (b h) fun e=>by rw [e]; exact d⟩
   ·rintro(⟨h,a | rfl,rfl⟩ | ⟨a,b⟩)
    ·by_cases e:h=k
     ·exact .inl (by rw [e])
     ·exact .inr ⟨.inl ⟨h,a,rfl⟩,by simp; omega⟩
    ·exact .inl rfl
    ·exact .inr ⟨.inr ⟨a,fun h hh=>b h (.inl hh)⟩,b k (.inr rfl)⟩
theorem memL_iff {c:ChD} {i:Int} {k:Nat} :k∈memL c i↔ ∃s,c.states[k]? =some s/\inZ c i=true/\s.parent=i/\zat s=true:=by
 unfold memL memP
 rw [List.mem_filter,List.mem_range]
 constructor
 ·rintro⟨h1,h2⟩
  rw [List.getElem?_eq_getElem h1] at h2 |-
  simp only [Bool.and_eq_true,beq_iff_eq] at h2
  exact⟨_,rfl,h2.1,h2.2.1,h2.2.2⟩
 ·rintro⟨s,hs,h1,h2,h3⟩
  refine⟨(List.getElem?_eq_some_iff.1 hs).1, ?_⟩
  rw [hs]
  simp [h1,h2,h3]
def touch (c:ChD) (gone:List Int) (h:Int):Prop:= ∃i∈gone,zaL c i=true/\ ∃k∈memL c i,h=(k:Int)
theorem remTo_of {c:ChD} {act gone:List Int} {o:List MemD} (hs:Srt o): ∀(j:Nat),j<=gone.length->Srt (remTo c act gone o j)/\ ∀p,p∈remTo c act gone o j↔(∃i∈gone.take j,zaL c i=true/\ ∃k∈memL c i,p=((k:Int),newV c act i k))\/(p∈o/\ ¬touch c (gone.take j) p.1)
 | 0,_=>⟨hs,fun p=>by simp [remTo,touch]⟩
 | j+1,hj=>by
   obtain⟨i,hi⟩: ∃i,gone[j]? =some i:=⟨gone[j],List.getElem?_eq_getElem (by omega)⟩
   obtain⟨q1,q2⟩:=remTo_of (c:=c) (act:=act) (gone:=gone) hs j (by omega)
   have e:remTo c act gone o (j+1)=if zaL c i=true then memTo_ c act i (remTo c act gone o j) (memL c i) (memL c i).length else remTo c act gone o j:=zdK _ _ hi
   have e2: ∀x,x∈gone.take (j+1)↔x∈gone.take j\/x=i:=fun x=>by rw [List.take_add_one,hi]; simp
   rw [e]
   split
   ·rename_i hp
    obtain⟨p1,p2⟩:=memTo__of (c:=c) (act:=act) (i:=i) (M:=memL c i) _ (Nat.le_refl _) q1
    refine⟨p1,fun p=> ?_⟩
    rw [p2,q2,List.take_length]
    unfold touch
    simp only [e2]
    constructor
    ·rintro(⟨h,a,rfl⟩ | ⟨⟨i',a,b,k,d',rfl⟩ | ⟨a,b⟩,d⟩)
     ·exact .inl ⟨i, .inr rfl,hp,h,a,rfl⟩
     ·exact .inl ⟨i', .inl a,b,k,d',rfl⟩
     ·refine .inr ⟨a, ?_⟩
      rintro⟨i',a' | rfl,b',k,d',e'⟩
      ·exact b ⟨i',a',b',k,d',e'⟩
      ·exact d k d' e'
    ·rintro(⟨i',a | rfl,b,k,d,rfl⟩ | ⟨a,b⟩)
     ·by_cases e:i'=i
      ·subst e
       exact .inl ⟨k,d,rfl⟩
      ·refine .inr ⟨.inl ⟨i',a,b,k,d,rfl⟩,fun h hh he=>e ?_⟩
       have he:((k:Nat):Int)=h:=he
       have he:k=h:=by omega
       subst he
       obtain⟨s,hs,_,h1,_⟩:=memL_iff.1 d
       obtain⟨s',hs',_,h2,_⟩:=memL_iff.1 hh
       rw [hs] at hs'
       cases hs'
       rw [<-h1, <-h2]
     ·exact .inl ⟨k,d,rfl⟩
     ·refine .inr ⟨.inr ⟨a,fun⟨i',a',b',r⟩=>b ⟨i', .inl a',b',r⟩⟩,fun h hh he=>b ⟨i, .inr rfl,hp,h,hh,he⟩⟩
   ·rename_i hp
    refine⟨q1,fun p=> ?_⟩
    rw [q2]
    unfold touch
    simp only [e2]
    constructor
    ·rintro(⟨i',a,b,r⟩ | ⟨a,b⟩)
     ·exact .inl ⟨i', .inl a,b,r⟩
     ·refine .inr ⟨a, ?_⟩
      rintro⟨i',a' | rfl,b',r⟩
      ·exact b ⟨i',a',b',r⟩
      ·exact hp b'
    ·rintro(⟨i',a | rfl,b,r⟩ | ⟨a,b⟩)
     ·exact .inl ⟨i',a,b,r⟩
     ·exact absurd b hp
     ·exact .inr ⟨a,fun⟨i',a',b',r⟩=>b ⟨i', .inl a',b',r⟩⟩
theorem rem_of {c:ChD} {act gone:List Int} {o:List MemD} (hs:Srt o):Srt (remL c act gone o)/\ ∀p,p∈remL c act gone o↔(∃i∈gone,zaL c i=true/\ ∃k∈memL c i,p=((k:Int),newV c act i k))\/(p∈o/\ ¬touch c gone p.1):=by
 have:=remTo_of (c:=c) (act:=act) (gone:=gone) hs _ (Nat.le_refl _)
 rw [List.take_length] at this
 exact this
/-! As the document says -/
def ofM (mem:List MemD) (h:Int):List Int:=match mem.find? (fun m=>m.1==h) with
 | some m=>m.2
 | none=>[]
def rinL (c:ChD) (l:List Int):List Nat:=(List.range c.states.length).filter fun i:Nat=>l.contains (i:Int)&&(manyI l (kidsL c i true)==0)
def runderL (c:ChD) (l:List Int) (i:Int):List Int:=(zL (sortL c l)).filter (aboveB c i)
def refV (c:ChD) (act gone:List Int) (mem:List MemD) (h:Nat):List Int:=match c.states[h]? with
 | some s=>if zat s=true then(if gone.contains s.parent=true then(if s.kind=5 then zL (rinL c (runderL c act s.parent)) else(kidZ c s.parent).filter fun k=>act.contains k) else ofM mem h) else []
 | none=>[]
def remRTo (c:ChD) (act gone:List Int) (mem:List MemD) (j:Nat):List MemD:=((List.range j).filter fun h=> !(refV c act gone mem h).isEmpty).map fun h:Nat=>((h:Int),refV c act gone mem h)
def remR (c:ChD) (act gone:List Int) (mem:List MemD):List MemD:=remRTo c act gone mem c.states.length
theorem ofM_mem {mem:List MemD} (hs:Srt mem) {p:MemD} (hp:p∈mem):ofM mem p.1=p.2:=by
 unfold ofM
 cases hf:mem.find? (fun m=>m.1==p.1) with
 | none=>
   rw [List.find?_eq_none] at hf
   exact absurd (beq_self_eq_true p.1) (hf p hp)
 | some q=>
   have h1:=List.find?_some hf
   have h2:=List.mem_of_find?_eq_some hf
   simp only [beq_iff_eq] at h1
   have na:q=p:=by
    obtain⟨a,ha,rfl⟩:=List.mem_iff_getElem.1 h2
    obtain⟨b,hb,rfl⟩:=List.mem_iff_getElem.1 hp
    rcases Nat.lt_trichotomy a b with h | h | h
    ·have:=List.pairwise_iff_getElem.1 hs a b ha hb h; omega
    ·subst h; rfl
    ·have:=List.pairwise_iff_getElem.1 hs b a hb ha h; omega
   rw [na]
theorem mems_of {c:ChD} {mem:List MemD} (hs:Srt mem) (hm: ∀m∈mem,memB c m=true):zc3 c mem=true:=by
 refine List.all_eq_true.2 fun j hj=> ?_
 have hj:=List.mem_range.1 hj
 unfold zgN
 rw [List.getElem?_eq_getElem hj]
 simp only
 rw [hm _ (List.getElem_mem hj),Bool.true_and]
 by_cases h0:j=0
 ·simp [h0]
 ·have:=List.pairwise_iff_getElem.1 hs (j-1) j (by omega) hj (by omega)
  simp [List.getD_eq_getElem?_getD,List.getElem?_eq_getElem (show j-1<mem.length by omega),this]
theorem memB_of {c:ChD} {m:MemD} (h:memB c m=true): ∃(k:Nat) (s:StD),m.1=(k:Int)/\c.states[k]? =some s/\zat s=true/\m.2≠[]:=by
 unfold memB at h
 split at h
 ·rename_i s hs
  have h0:0<=m.1/\c.states[m.1.toNat]? =some s:=by
   unfold at_ at hs
   split at hs
   ·exact⟨by assumption,hs⟩
   ·cases hs
  refine⟨m.1.toNat,s,by omega,h0.2, ?_, ?_⟩
  ·unfold zat
   split at h
   ·rename_i e; simp [e]
   ·rw [Bool.and_eq_true] at h; rw [h.1]; simp
  ·split at h
   ·rw [Bool.and_eq_true,decide_eq_true_eq] at h
    intro e
    rw [e] at h
    simp at h
   ·unfold deepB at h
    simp only [Bool.and_eq_true] at h
    exact zna h.2.1.1.1
 ·cases h
theorem many_pos {l:List Int} {ks:List Nat} :manyI l ks=0↔((zL ks).any fun k=>l.contains k)=false:=by
 rw [zei,List.any_eq_false]
 simp
theorem rise_eq {a b:List Int} (ha:a.Pairwise (· < ·)) (hb:b.Pairwise (· < ·)) (h: ∀x,x∈a↔x∈b):a=b:=by
 have na:a.Nodup:=ha.imp fun h=>by omega
 have nb:b.Nodup:=hb.imp fun h=>by omega
 exact List.Perm.eq_of_pairwise (fun x y _ _ h1 h2=>by omega) ha hb ((List.perm_ext_iff_of_nodup na nb).2 h)
theorem sortZ_rise {l:List Int} (hn:l.Nodup):(zeK l).Pairwise (· < ·)/\ ∀x,x∈zeK l↔x∈l:=by
 have hs:(zeK l).Pairwise (fun x y:Int=>decide (x<=y)=true):=List.pairwise_mergeSort (fun a b c=>by simp; omega) (fun a b=>by simp; omega) _
 have hp:(zeK l).Perm l:=List.mergeSort_perm ..
 have hn2:(zeK l).Nodup:=hp.nodup_iff.2 hn
 refine⟨(List.pairwise_and_iff.2 ⟨hs,hn2⟩).imp fun⟨a,b⟩=> ?_,fun x=>hp.mem_iff⟩
 have a:=of_decide_eq_true a
 omega
theorem zL_rise {p:Nat->Bool} {n:Nat} :(zL ((List.range n).filter p)).Pairwise (· < ·):=by
 unfold zL
 rw [List.pairwise_map]
 exact(rises (p:=p) (n:=n)).imp fun h=>by omega
theorem inner_same {c:ChD} (hr:Right c) {act:List Int} (hg:Lg c act) (i:Int):innerL c (underL c act i)=zL (rinL c (runderL c act i)):=by
 have hz: ∀x∈act,inZ c x=true:=fun x hx=>by obtain⟨_,_,h,_⟩:=hg.of hx; exact h
 have hu: ∀x,x∈runderL c act i↔x∈underL c act i:=fun x=>by
  unfold runderL underL
  rw [List.mem_filter,List.mem_filter,sort_memI hr hz]
 have hn:((underL c act i).filter (innerP c (underL c act i))).Nodup:=(hg.nodup.sublist List.filter_sublist).sublist List.filter_sublist
 obtain⟨r1,r2⟩:=sortZ_rise hn
 refine rise_eq r1 zL_rise fun x=> ?_
 unfold innerL
 rw [r2,List.mem_filter]
 have hmany: ∀k:Nat,innerP c (underL c act i) k=(manyI (runderL c act i) (kidsL c k true)==0):=fun k=>by
  rw [zdJ hu,Bool.eq_iff_iff]
  unfold innerP
  rw [Bool.not_eq_true',beq_iff_eq,many_pos]
 constructor
 ·rintro⟨h1,h2⟩
  have hx:x∈act:=(List.mem_filter.1 h1).1
  have:=zag.1 (hz x hx)
  obtain⟨k,rfl⟩: ∃k:Nat,x=k:=⟨x.toNat,by omega⟩
  refine List.mem_map.2 ⟨k,List.mem_filter.2 ⟨List.mem_range.2 (by omega), ?_⟩,rfl⟩
  rw [Bool.and_eq_true,List.contains_iff_mem, <-hmany]
  exact⟨(hu _).2 h1,h2⟩
 ·intro hx
  obtain⟨k,hk,rfl⟩:=List.mem_map.1 hx
  have:=(List.mem_filter.1 hk).2
  rw [Bool.and_eq_true,List.contains_iff_mem, <-hmany] at this
  exact⟨(hu _).1 this.1,this.2⟩
theorem last_one {l:List Int} {x:Int} (h:l=[x]):l.getLast? =some x:=by rw [h]; rfl
theorem kid_same {c:ChD} {act:List Int} {i:Int} (h:manyI act (kidsL c i true)=1): ∃k,k∈kidZ c i/\k∈act/\lastKid c act i=[k]/\((kidZ c i).filter fun k=>act.contains k)=[k]:=by
 rw [<-zkk] at h
 obtain⟨k,hk⟩:=List.length_eq_one_iff.1 h
 have hm:k∈(kidZ c i).filter fun k=>act.contains k:=by rw [hk]; simp
 obtain⟨h1,h2⟩:=List.mem_filter.1 hm
 refine⟨k,h1,by simpa using h2, ?_,hk⟩
 unfold lastKid
 rw [last_one hk]
theorem inner_has {c:ChD} (hr:Right c) {act:List Int} (i:Int): ∀(n:Nat) (x:Int),(c.states.length:Int)<=x+n->x∈underL c act i-> ∃y∈innerL c (underL c act i),y=x\/x∈upL c y
 | 0,x,hn,hx=>by
   have ha:i∈upL c x:=by simpa [aboveB] using (List.mem_filter.1 hx).2
   cases hh:inZ c x with
   | true=>have:=zag.1 hh; omega
   | false=>rw [zbq hh] at ha; simp at ha
 | n+1,x,hn,hx=>by
   have hxm:=List.mem_filter.1 hx
   have ha:i∈upL c x:=by simpa [aboveB] using hxm.2
   by_cases hi:innerP c (underL c act i) x=true
   ·refine⟨x, ?_, .inl rfl⟩
    unfold innerL
    exact(List.mergeSort_perm ..).mem_iff.2 (List.mem_filter.2 ⟨hx,hi⟩)
   ·have hi:((kidZ c x).any fun k=>(underL c act i).contains k)=true:=by
     unfold innerP at hi
     simpa using hi
    obtain⟨k,hk,hku⟩:=List.any_eq_true.1 hi
    obtain⟨k1,k2,k3⟩:=zcz hr hk
    obtain⟨y,hy,hyk⟩:=inner_has hr i n k (by omega) (by simpa using hku)
    have hxk:x∈upL c k:=(zbr hr k1).2 (.inl k2.symm)
    refine⟨y,hy, .inr ?_⟩
    rcases hyk with rfl | hyk
    ·exact hxk
    ·exact zdy hr ((c.states.length+1)) y k x (by
      cases hh:inZ c y with
      | true=>have:=zag.1 hh; omega
      | false=>rw [zbq hh] at hyk; simp at hyk) hyk hxk
theorem deep_new {c:ChD} (h:Full c) {act:List Int} (hg:Lg c act) {p:Int} (hp:p∈act) (hpl:zaL c p=true) (hk:kidsL c p true≠[]):zmq c p (innerL c (underL c act p))=true:=by
 have hr:=h.toRight
 have hz: ∀x∈act,inZ c x=true:=fun x hx=>by obtain⟨_,_,h,_⟩:=hg.of hx; exact h
 have hub: ∀x∈underL c act p,x∈act/\aboveB c p x=true:=fun x hx=>List.mem_filter.1 hx
 have hn:((underL c act p).filter (innerP c (underL c act p))).Nodup:=(hg.nodup.sublist List.filter_sublist).sublist List.filter_sublist
 obtain⟨r1,r2⟩:=sortZ_rise hn
 have hin: ∀x,x∈innerL c (underL c act p)↔x∈underL c act p/\innerP c (underL c act p) x=true:=fun x=>by unfold innerL; rw [r2,List.mem_filter]
 have hkid: ∀x k,(x=p\/x∈underL c act p)->k∈kidZ c x->(k∈underL c act p↔k∈act):=fun x k hx hk=>by
  obtain⟨k1,k2,_⟩:=zcz hr hk
  refine⟨fun hh=>(hub k hh).1,fun hh=>List.mem_filter.2 ⟨hh,(zbg hr k1).2 ?_⟩⟩
  rw [k2]
  exact hx.imp id fun hx=>(hub x hx).2
 have hpo:=hg.of hp
 obtain⟨sp,hsp,hzp,_,_,hp1,_⟩:=hpo
 have hkp:sp.kind=1:=by rw [zcF hsp] at hpl; simpa using hpl
 obtain⟨k0,k1,k2,_,_⟩:=kid_same (hp1 hkp hk)
 have hk0:k0∈underL c act p:=(hkid p k0 (.inl rfl) k1).2 k2
 obtain⟨y0,hy0,_⟩:=inner_has hr p (c.states.length+1) k0 (by have:=zag.1 (hz k0 k2); omega) hk0
 have hne:innerL c (underL c act p)≠[]:=fun e=>by rw [e] at hy0; simp at hy0
 have hrise:zdd (innerL c (underL c act p))=true:=by
  unfold zdd
  rw [Bool.and_eq_true,List.all_eq_true]
  refine⟨by simpa using hne,fun j hj=> ?_⟩
  have hj:=List.mem_range.1 hj
  unfold upB
  by_cases h0:j=0
  ·simp [h0]
  ·have:=List.pairwise_iff_getElem.1 r1 (j-1) j (by unfold innerL at hj; omega) hj (by omega)
   rw [Bool.or_eq_true,decide_eq_true_eq]
   right
   rw [List.getD_eq_getElem?_getD,List.getD_eq_getElem?_getD,List.getElem?_eq_getElem hj,List.getElem?_eq_getElem (show j-1< (innerL c (underL c act p)).length by omega)]
   exact this
 have hleaf: ∀x∈innerL c (underL c act p),kidsL c x true=[]:=fun x hx=>by
  obtain⟨q1,q2⟩:=(hin x).1 hx
  have hxa:=(hub x q1).1
  obtain⟨s,hs,_,hm,_,f1,f2⟩:=hg.of hxa
  have hno: ∀k∈kidZ c x,k∉act:=fun k hk hh=>by
   unfold innerP at q2
   have:((kidZ c x).any fun k=>(underL c act p).contains k)=true:=List.any_eq_true.2 ⟨k,hk,by simpa using (hkid x k (.inr q1) hk).2 hh⟩
   rw [this] at q2
   cases q2
  have h0:=zei.2 hno
  apply Classical.byContradiction
  intro hne
  rcases zlD h hs with⟨e,_⟩ | ⟨e,_⟩ | ⟨_,e⟩ | ⟨_,e⟩
  ·have:=f1 e hne; omega
  ·have:=f2 e; rw [h0] at this; exact hne (List.eq_nil_of_length_eq_zero this.symm)
  ·exact hne e
  ·exact hne e
 have hmem: ∀x,x∈deepRA c p (innerL c (underL c act p))↔x∈underL c act p\/x=p:=fun x=>by
  unfold deepRA
  rw [List.mem_append,List.mem_singleton,zfC hr fun x hx=>hz x (hub x ((hin x).1 hx).1).1,zdR.2]
  constructor
  ·rintro((a | ⟨i,a,b,d,e⟩) | a)
   ·exact .inl ((hin x).1 a).1
   ·have hia:=(hub i ((hin i).1 a).1).1
    exact .inl (List.mem_filter.2 ⟨hg.up hr (c.states.length+1) i x (by have:=zag.1 (hz i hia); omega) hia b d,e⟩)
   ·exact .inr a
  ·rintro(a | a)
   ·obtain⟨y,hy,e | e⟩:=inner_has hr p (c.states.length+1) x (by have:=zag.1 (hz x (hub x a).1); omega) a
    ·exact .inl (.inl (by rw [<-e]; exact hy))
    ·exact .inl (.inr ⟨y,hy,e,(zag.1 (hz x (hub x a).1)).1,(hub x a).2⟩)
   ·exact .inr a
 unfold zmq
 rw [hrise,Bool.true_and,Bool.and_eq_true,List.all_eq_true,List.all_eq_true]
 refine⟨fun x hx=> ?_,fun x hx=> ?_⟩
 ·obtain⟨q1,_⟩:=(hin x).1 hx
  obtain⟨q3,q4⟩:=hub x q1
  obtain⟨s,hs,_,hm,_⟩:=hg.of q3
  unfold zbt
  rw [q4,hs,hleaf x hx]
  simp [hm]
 ·have hx:=(hmem x).1 hx
  have hxa:x∈act:=hx.elim (fun a=>(hub x a).1) fun a=>by rw [a]; exact hp
  obtain⟨s,hs,_,hm,_,f1,f2⟩:=hg.of hxa
  have hmany:manyI (deepRA c p (innerL c (underL c act p))) (kidsL c x true)=manyI act (kidsL c x true):=by
   unfold manyI
   congr 1
   apply List.filter_congr
   intro k hk
   have hkz:(k:Int)∈kidZ c x:=List.mem_map.2 ⟨k,hk,rfl⟩
   rw [Bool.eq_iff_iff,List.contains_iff_mem,List.contains_iff_mem,hmem]
   refine⟨fun hh=>hh.elim (fun a=>(hub _ a).1) fun a=>by rw [a]; exact hp,fun hh=> .inl ((hkid x k ?_ hkz).2 hh)⟩
   exact hx.symm
  unfold zbv
  rw [hs]
  simp only
  rw [hmany]
  rcases zlD h hs with⟨e,_⟩ | ⟨e,_⟩ | ⟨e,_⟩ | ⟨e,_⟩
  ·by_cases hne:kidsL c x true=[]
   ·simp [e,hne,manyI]
   ·have:=f1 e hne
    have hlen:0< (kidsL c x true).length:=List.length_pos_iff.2 hne
    simp [e,this]
    omega
  ·simp [e,f2 e]
  ·simp [e]
  ·rcases e with e | e<;>simp [e]
theorem new_same {c:ChD} (h:Full c) {act:List Int} (hg:Lg c act) {k:Nat} {s:StD} (hs:c.states[k]? =some s) (hm:zat s=true) (hp:s.parent∈act):
 newV c act s.parent k=(if s.kind=5 then zL (rinL c (runderL c act s.parent)) else(kidZ c s.parent).filter fun k=>act.contains k)/\memB c ((k:Int),newV c act s.parent k)=true:=by
 obtain⟨h1,h2,h3,h4,h5⟩:=zqw h hs hm
 have hat:at_ c (k:Int)=some s:=by rw [zbp]; exact hs
 have hv:newV c act s.parent k=if s.kind=5 then innerL c (underL c act s.parent) else lastKid c act s.parent:=by
  unfold newV
  rw [hs]
 have hB: ∀v,memB c ((k:Int),v)=if s.kind=4 then decide (v.length=1)&&(kidZ c s.parent).contains (v.getD 0 0) else(s.kind==5)&&deepB c s.parent v:=fun v=>by
  unfold memB
  simp only [hat]
 by_cases e:s.kind=5
 ·rw [if_pos e] at hv
  rw [hv,hB,if_pos e,if_neg (by omega)]
  refine⟨inner_same h.toRight hg _, ?_⟩
  rw [zjy h h2,deep_new h hg hp h1 h3,e]
  rfl
 ·rw [if_neg e] at hv
  rw [hv,hB,if_neg e,if_pos (by omega)]
  obtain⟨sp,hsp,_,_,_,f1,_⟩:=hg.of hp
  have hkp:sp.kind=1:=by rw [zcF hsp] at h1; simpa using h1
  obtain⟨q,q1,q2,q3,q4⟩:=kid_same (f1 hkp h3)
  rw [q3,q4]
  refine⟨rfl, ?_⟩
  rw [Bool.and_eq_true]
  exact⟨rfl,List.contains_iff_mem.2 q1⟩
theorem remember_same {c:ChD} (h:Full c) {act gone:List Int} {mem:List MemD} (hl:lgB c act=true) (hm:zc3 c mem=true) (hgo: ∀x∈gone,x∈act):remL c act gone mem=remR c act gone mem/\zc3 c (remL c act gone mem)=true:=by
 have hg:=lg_out hl
 obtain⟨hs,hmb⟩:=zkf hm
 obtain⟨r1,r2⟩:=rem_of (c:=c) (act:=act) (gone:=gone) hs
 have hall: ∀p∈remL c act gone mem,memB c p=true:=fun p hp=>by
  rcases (r2 p).1 hp with⟨i,hi,hpl,k,hk,rfl⟩ | ⟨hp,_⟩
  ·obtain⟨s,hs,_,rfl,hmy⟩:=memL_iff.1 hk
   exact(new_same h hg hs hmy (hgo _ hi)).2
  ·exact hmb p hp
 refine⟨srt_ext r1 ?_ fun p=> ?_,mems_of r1 hall⟩
 ·unfold remR remRTo Srt
  rw [List.pairwise_map]
  exact(rises (p:=fun h=> !(refV c act gone mem h).isEmpty) (n:=c.states.length)).imp fun h=>by simp only; omega
 ·have href: ∀ {k:Nat} {s:StD},c.states[k]? =some s->zat s=true->refV c act gone mem k=if gone.contains s.parent=true then newV c act s.parent k else ofM mem k:=fun {k s} hs hmy=>by
   unfold refV
   rw [hs]
   simp only
   rw [if_pos hmy]
   split
   ·rename_i hc
    exact((new_same h hg hs hmy (hgo _ (List.contains_iff_mem.1 hc))).1).symm
   ·rfl
  have hR:p∈remR c act gone mem↔ ∃k:Nat,k<c.states.length/\refV c act gone mem k≠[]/\p=((k:Int),refV c act gone mem k):=by
   unfold remR remRTo
   rw [List.mem_map]
   constructor
   ·rintro⟨k,hk,rfl⟩
    obtain⟨a,b⟩:=List.mem_filter.1 hk
    exact⟨k,List.mem_range.1 a,by simpa using b,rfl⟩
   ·rintro⟨k,a,b,rfl⟩
    exact⟨k,List.mem_filter.2 ⟨List.mem_range.2 a,by simpa using b⟩,rfl⟩
  rw [hR]
  constructor
  ·intro hp
   obtain⟨k,s,e1,hs',hmy,hne⟩:=memB_of (hall p hp)
   have hv:refV c act gone mem k=p.2:=by
    rw [href hs' hmy]
    rcases (r2 p).1 hp with⟨i,hi,hpl,k',hk',rfl⟩ | ⟨hpm,hnt⟩
    ·obtain⟨s2,hs2,_,e2,_⟩:=memL_iff.1 hk'
     have e1':((k':Nat):Int)=k:=e1
     have:k'=k:=by omega
     subst this
     rw [hs'] at hs2
     cases hs2
     rw [if_pos (by rw [e2]; exact List.contains_iff_mem.2 hi),e2]
    ·rw [if_neg, <-e1,ofM_mem hs hpm]
     intro hc
     have hi:=List.contains_iff_mem.1 hc
     obtain⟨p1,_,_,p4,_⟩:=zqw h hs' hmy
     exact hnt ⟨s.parent,hi,p1,k,memL_iff.2 ⟨s,hs',p4,rfl,hmy⟩,e1⟩
   refine⟨k,(List.getElem?_eq_some_iff.1 hs').1,by rw [hv]; exact hne, ?_⟩
   rw [hv, <-e1]
  ·rintro⟨k,hk,hne,rfl⟩
   obtain⟨s,hs'⟩: ∃s,c.states[k]? =some s:=⟨_,List.getElem?_eq_getElem hk⟩
   have hmy:zat s=true:=by
    cases hb:zat s with
    | true=>rfl
    | false=>
      unfold refV at hne
      rw [hs'] at hne
      simp [hb] at hne
   obtain⟨p1,_,_,p4,_⟩:=zqw h hs' hmy
   rw [href hs' hmy] at hne |-
   rw [r2]
   split
   ·rename_i hc
    exact .inl ⟨s.parent,List.contains_iff_mem.1 hc,p1,k,memL_iff.2 ⟨s,hs',p4,rfl,hmy⟩,rfl⟩
   ·rename_i hc
    rw [if_neg hc] at hne
    refine .inr ⟨?_, ?_⟩
    ·apply Classical.byContradiction
     intro hno
     cases hf:mem.find? (fun m=>m.1==(k:Int)) with
     | none=>unfold ofM at hne; rw [hf] at hne; exact hne rfl
     | some q=>
       have a:=List.find?_some hf
       have b:=List.mem_of_find?_eq_some hf
       simp only [beq_iff_eq] at a
       have:=ofM_mem hs b
       rw [a] at this
       rw [this, <-a] at hno
       exact hno b
    ·rintro⟨i,hi,_,k',hk',e⟩
     have e':((k:Nat):Int)=k':=e
     have e:k=k':=by omega
     subst e
     obtain⟨s2,hs2,_,e2,_⟩:=memL_iff.1 hk'
     rw [hs'] at hs2
     cases hs2
     rw [<-e2] at hi
     exact hc (List.contains_iff_mem.2 hi)
/-! Moves -/
theorem comp_specI (l:List Int) (hs:l.Pairwise (· <= ·)): ∀m,m<=l.length->(Lib.compactUpTo l.toArray m).Pairwise (· < ·)/\ ∀x,x∈Lib.compactUpTo l.toArray m↔x∈l.take m
 | 0,_=>by simp [Lib.compactUpTo]
 | m+1,hm=>by
   obtain⟨h1,h2⟩:=comp_specI l hs m (by omega)
   have ey:l.toArray[m]! =l[m]'(by omega):=by rw [getElem!_pos _ m (by simp; omega)]; rfl
   have et:l.take (m+1)=l.take m++[l[m]'(by omega)]:=by rw [List.take_add_one,List.getElem?_eq_getElem (by omega)]; rfl
   have hle: ∀k (hk:k<m),l[k]'(by omega)<=l[m]'(by omega):=fun k hk=>List.pairwise_iff_getElem.1 hs k m (by omega) (by omega) hk
   rw [Lib.compactUpTo_succ,ey]
   by_cases hk:Lib.keeps l.toArray m=true
   ·rw [if_pos hk]
    refine⟨List.pairwise_append.2 ⟨h1,List.pairwise_singleton ..,fun x hx y hy=> ?_⟩,fun x=>by rw [et,List.mem_append,List.mem_append,h2]⟩
    rw [List.mem_singleton.1 hy]
    rw [h2,List.mem_take_iff_getElem] at hx
    obtain⟨k,hk2,rfl⟩:=hx
    have hkm:k<m:=by omega
    unfold Lib.keeps at hk
    rw [decide_eq_true_eq] at hk
    rcases hk with hk | hk
    ·omega
    ·rw [ey,getElem!_pos _ (m-1) (by simp; omega)] at hk
     have hk:l[m]'(by omega)≠l[m-1]'(by omega):=hk
     have e1:=hle (m-1) (by omega)
     have e2:l[k]'(by omega)<=l[m-1]'(by omega):=by
      by_cases ek:k=m-1
      ·subst ek; exact Int.le_refl _
      ·exact List.pairwise_iff_getElem.1 hs k (m-1) (by omega) (by omega) (by omega)
     omega
   ·rw [if_neg hk,List.append_nil]
    refine⟨h1,fun x=> ?_⟩
    rw [h2,et,List.mem_append,List.mem_singleton]
    refine⟨.inl,fun h=>h.elim id fun h=> ?_⟩
    unfold Lib.keeps at hk
    rw [decide_eq_true_eq,not_or,Classical.not_not,ey,getElem!_pos _ (m-1) (by simp; omega)] at hk
    rw [h,hk.2]
    exact List.mem_take_iff_getElem.2 ⟨m-1,by omega,rfl⟩
theorem compact_sort {c:ChD} {l:List Int} {l':List Nat} (h: ∀x,x∈l↔x∈zL l') (hb: ∀k∈l',k<c.states.length):Lib.compact (zeK l)=zL (riseL c l'):=by
 have hs:(zeK l).Pairwise (· <= ·):=(List.pairwise_mergeSort (le:=fun x y:Int=>decide (x<=y)) (fun a b c=>by simp; omega) (fun a b=>by simp; omega) l).imp fun h=>by simpa using h
 obtain⟨h1,h2⟩:=comp_specI (zeK l) hs _ (Nat.le_refl _)
 refine rise_eq h1 zL_rise fun x=> ?_
 show x∈Lib.compactUpTo _ _↔_
 rw [h2,List.take_length]
 unfold zeK
 rw [(List.mergeSort_perm ..).mem_iff,h]
 constructor
 ·intro hx
  obtain⟨k,hk,rfl⟩:=List.mem_map.1 hx
  exact List.mem_map.2 ⟨k,rise_mem.2 ⟨hb k hk,hk⟩,rfl⟩
 ·intro hx
  obtain⟨k,hk,rfl⟩:=List.mem_map.1 hx
  exact List.mem_map.2 ⟨k,(rise_mem.1 hk).2,rfl⟩
end
section
theorem LeaveE_con (env:Env) (a1 a8:Addr) (he:ChEnv env a1 a8) (c:ChD) (h:Full c) (hs:Small c) (act:List Int) (hl:act.length<=1000000) (n:Int) (hb:lgB c act=false):Con Tryz.prog env 65 [zai c, .seq 1 (act.map intAV),I n] (.tuple [nilS,errV (-1) (errV (ziO c act).2 (sentV a1))]):=by
 have f0:=zjE env a1 a8 he c h hs act hl
 have f1:=zoZ env [101,110,116,101,114,46,76,101,97,118,101] (ziO c act).2 (sentV a1)
 unfold chkE at f0
 rw [hb] at f0
 simp only [Bool.false_eq_true,if_false] at f0
 unfold zai at f0 |-
 refine zaa Tryz.func65 rfl Tryz.call65 (by rw [Tryz.ntmps65]; simp) ?_
 rw [Tryz.ntmps65,Tryz.results65]
 repeat (first | refine st0 ?_ | refine cC0 f0 ?_ | refine cC0 f1 ?_)
 exact aR0
theorem LeaveN_con (env:Env) (a1 a8:Addr) (he:ChEnv env a1 a8) (c:ChD) (h:Full c) (hs:Small c) (act:List Int) (hl:act.length<=1000000) (n:Int) (hb:lgB c act=true) (hn:isT c n=false):Con Tryz.prog env 65 [zai c, .seq 1 (act.map intAV),I n] (.tuple [nilS,errV (-1) (sentV a1)]):=by
 have f0:=zjE env a1 a8 he c h hs act hl
 have f1:=zmX env c hs n hn
 have f2:=zg9 env a1 a8 he [101,110,116,101,114,46,76,101,97,118,101]
 unfold chkE at f0
 rw [hb] at f0
 simp only [if_true] at f0
 unfold zai at f0 f1 |-
 refine zaa Tryz.func65 rfl Tryz.call65 (by rw [Tryz.ntmps65]; simp) ?_
 rw [Tryz.ntmps65,Tryz.results65]
 repeat (first | refine st0 ?_ | refine cC0 f0 ?_ | refine cC0 f1 ?_ | refine cC0 f2 ?_)
 exact aR0
theorem rUnder30_con (env:Env) (c:ChD) (hc:Right c) (act:List Int) (hl:act.length<=1000000) (hz: ∀x∈act,0<=x) (i:Int):Con Tryz.prog env 54 [.agg (chAV c), .seq 1 (act.map intAV),I i] (.own 3 1 ((undR c act i).map intAV)):=by
 have f2:=zlZ env c hc act hl hz
 have hsl:=zin hc act
 rw [<-ze8] at f2
 unfold undR
 have hsl:(zL (sortL c act)).length<=32:=by rw [zdQ]; exact hsl
 generalize zL (sortL c act)=L at*
 unfold chAV at f2
 refine zaa Tryz.func54 rfl Tryz.call54 (by rw [Tryz.ntmps54]; simp) ?_
 rw [Tryz.ntmps54,Tryz.results54]
 have F:=chAV.eq_1
 repeat (first | refine st ?_ | refine cC f2 ?_)
 refine zab (D:=Nat) (fun j vs=>[(2,I i),(3, .loc 3 (vs 3) 0 0),(7, .row 10 (vs 10)),(8, .row 13 (vs 13)),(9,I j)]) (fun j _=>[(3,⟨5,[chAV c],26,false⟩),(10,⟨1,(zgE c L i j).map intAV,3,true⟩),(13,⟨1,L.map intAV,3,true⟩)]) (fun j _ esc=>j<=L.length/\esc 10=false) (fun j=>L.length-j) 0 ?_ ?_ ?_ ?_
 ·exact⟨Nat.zero_le _,rfl⟩
 ·(simp only [go_sem,F])
  try rfl
 ·have F:=chAV.eq_1
  (simp only [go_sem,F])
  try rfl
 rintro j ws esc ⟨hj,e0⟩
 by_cases hlt:j<L.length
 ·obtain⟨x,hx⟩: ∃x,L[j]? =some x:=⟨L[j],List.getElem?_eq_getElem hlt⟩
  have q1:=nlt hlt
  have q2:=zac hlt (by omega)
  have f3:=zdh env c hc i x
  unfold chAV at f3
  have hil:=zmV c L i j
  have hf:Fits ((zgE c L i j).length+1) 8:=zah (by omega) (by omega)
  have hn:=zlH (c:=c) (i:=i) hx
  cases hb:aboveB c i x with
  | true=>
    rw [hb] at f3
    rw [hb,if_pos rfl] at hn
    have F:=ai chAV.eq_1<|ai q1<|ai q2<|ai hx<|ai hf<|e0
    repeat (first | refine st ?_ | refine cC f3 ?_)
    refine⟨j+1,⟨hlt,by simp only [go_sem,e0]⟩, ?_, ?_,by omega⟩
    ·(simp only [go_sem,F])
    ·have F:=ai chAV.eq_1<|hn
     (simp only [go_sem,List.map_append,F])
  | false=>
    rw [hb] at f3
    rw [hb,if_neg Bool.false_ne_true] at hn
    have F:=ai chAV.eq_1<|ai q1<|ai q2<|ai hx<|ai hf<|e0
    repeat (first | refine st ?_ | refine cC f3 ?_)
    refine⟨j+1,⟨hlt,by simp only [go_sem,e0]⟩, ?_, ?_,by omega⟩
    ·(simp only [go_sem,F])
    ·have F:=ai chAV.eq_1<|hn
     (simp only [go_sem,List.map_append,F])
 ·obtain rfl:j=L.length:=by omega
  have q1: ¬(L.length:Int)< (L.length:Int):=by omega
  have hall:zgE c L i L.length=L.filter (aboveB c i):=by unfold zgE; rw [List.take_length]
  rw [hall]
  have F:=ai q1<|e0
  repeat refine st ?_
  exact aR
def revTo (l:List Int) (m:Nat):List Int:=(l.drop (l.length-m)).reverse
theorem revTo_succ {l:List Int} {m:Nat} {x:Int} (hm:m<l.length) (h:l[l.length-m-1]? =some x):revTo l (m+1)=revTo l m++[x]:=by
 unfold revTo
 rw [show l.length-(m+1)=l.length-m-1 by omega]
 obtain⟨h1,rfl⟩:=List.getElem?_eq_some_iff.1 h
 rw [List.drop_eq_getElem_cons h1,List.reverse_cons]
 congr 3
 omega
theorem rTurned30_con (env:Env) (l:List Int) (hl:l.length<=1000000):Con Tryz.prog env 123 [.seq 1 (l.map intAV)] (.own 3 1 (l.reverse.map intAV)):=by
 have g0:IntKind.i64.wrap ((l.length:Int)-1)=(l.length:Int)-1-((0:Nat):Int):=by rw [zbU (by omega) (by omega)]; omega
 refine zaa Tryz.func123 rfl Tryz.call123 (by rw [Tryz.ntmps123]; simp) ?_
 rw [Tryz.ntmps123,Tryz.results123]
 have F:=g0
 repeat refine st ?_
 refine zab (D:=Nat) (fun m vs=>[(0, .seq 1 (l.map intAV)),(3, .row 5 (vs 5)),(4,I ((l.length:Int)-1-(m:Int)))]) (fun m _=>[(5,⟨1,(revTo l m).map intAV,3,true⟩)]) (fun m _ esc=>m<=l.length/\esc 5=false) (fun m=>l.length-m) 0 ?_ ?_ ?_ ?_
 ·exact⟨Nat.zero_le _,rfl⟩
 ·(simp only [go_sem,F])
 ·have:revTo l 0=[]:=by unfold revTo; simp
  rw [this]
  (simp only [go_sem,F])
  try rfl
 rintro m ws esc ⟨hm,e0⟩
 have hrl:(revTo l m).length=m:=by unfold revTo; rw [List.length_reverse,List.length_drop]; omega
 by_cases hlt:m<l.length
 ·obtain⟨x,hx⟩: ∃x,l[l.length-m-1]? =some x:=⟨l[l.length-m-1]'(by omega),List.getElem?_eq_getElem _⟩
  have q0:(l.length:Int)-1-(m:Int)=((l.length-m-1:Nat):Int):=by omega
  have q1:(0:Int)<=((l.length-m-1:Nat):Int):=by omega
  have q2:IntKind.i64.wrap (((l.length-m-1:Nat):Int)-1)=(l.length:Int)-1-((m+1:Nat):Int):=by rw [zbU (by omega) (by omega)]; omega
  have q3:((l.length-m-1:Nat):Int)< (l.length:Int):=by omega
  have hf:Fits ((revTo l m).length+1) 8:=⟨by omega,by omega⟩
  have hn:=revTo_succ hlt hx
  rw [q0]
  have F:=ai hx<|ai q1<|ai q2<|ai q3<|ai hf<|e0
  repeat refine st ?_
  refine⟨m+1,⟨hlt,by simp only [go_sem,e0]⟩, ?_, ?_,by omega⟩
  ·(simp only [go_sem,F])
  ·have F:=hn
   (simp only [go_sem,List.map_append,F])
 ·obtain rfl:m=l.length:=by omega
  have q1: ¬(0:Int)<=(l.length:Int)-1-(l.length:Int):=by omega
  have hall:revTo l l.length=l.reverse:=by unfold revTo; simp
  rw [hall]
  have F:=ai q1<|e0
  repeat refine st ?_
  exact aR
theorem rLeave30_con (env:Env) (c:ChD) (h:Full c) (act:List Int) (hl:act.length<=1000000) (hz: ∀x∈act,0<=x) (k:Nat) (t:TrD) (ht:c.trans[k]? =some t):Con Tryz.prog env 70 [.agg (chAV c), .seq 1 (act.map intAV), .agg (trAV t)] (.own 3 1 ((leaveR c act t).map intAV)):=by
 have f1:=zhN env c h.toRight t (h.src ht).1
 have f2:=rUnder30_con env c h.toRight act hl hz (domE c t.src t.target)
 have hul:(undR c act (domE c t.src t.target)).length<=32:=Nat.le_trans (List.length_filter_le ..) (by rw [zdQ]; exact zin h.toRight act)
 have f3:=rTurned30_con env (undR c act (domE c t.src t.target)) (by omega)
 unfold leaveR
 unfold trAV at f1
 unfold chAV at f1 f2
 by_cases h0:t.target<0
 ·rw [if_pos h0]
  refine zaj Tryz.func70 rfl Tryz.call70 (by rw [Tryz.ntmps70]; simp) ?_
  rw [Tryz.ntmps70,Tryz.results70]
  have F:=ai trAV.eq_1<|ai chAV.eq_1<|h0
  repeat (first | refine st ?_ | refine cC f1 ?_ | refine cC f2 ?_ | refine cC f3 ?_)
  (refine zak ?_; refine⟨_,(by show (zaz _ _ _).run _=some _; simp only [go_sem,F]; rfl), ?_⟩)
  exact RStr.own_nil _ _ (by decide)
 ·rw [if_neg h0]
  refine zaa Tryz.func70 rfl Tryz.call70 (by rw [Tryz.ntmps70]; simp) ?_
  rw [Tryz.ntmps70,Tryz.results70]
  have F:=ai trAV.eq_1<|ai chAV.eq_1<|h0
  repeat (first | refine st ?_ | refine cC f1 ?_ | refine cC f2 ?_ | refine cC f3 ?_)
  exact aR
end
section
theorem leave_nat {c:ChD} (hc:Right c) {act:List Int} {t:TrD} :(∀x∈leaveR c act t,0<=x)/\(leaveR c act t).length<=32:=by
 unfold leaveR
 split
 ·exact⟨fun x hx=>(by cases hx),by simp⟩
 ·refine⟨fun x hx=> ?_, ?_⟩
  ·have hx:=List.mem_reverse.1 hx
   unfold undR at hx
   have:=(List.mem_filter.1 hx).1
   obtain⟨k,_,rfl⟩:=List.mem_map.1 this
   omega
  ·rw [List.length_reverse]
   exact Nat.le_trans (List.length_filter_le ..) (by rw [zdQ]; exact zin hc act)
end

end Go.Proofs.YtlmekdfleciejaaGreatDoor