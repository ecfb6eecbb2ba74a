/- The document's Move; the law EnterMoves. -/
import Derived.Test.YtlmekdfleciejaaGreatDoorD4
import Derived.Test.YtlmekdfleciejaaGreatDoorD27
import Derived.Test.YtlmekdfleciejaaGreatDoorD34
import Derived.Test.YtlmekdfleciejaaGreatDoorD37
import Derived.Test.YtlmekdfleciejaaGreatDoorD38
import Derived.Test.YtlmekdfleciejaaGreatDoorD39
import Derived.Test.YtlmekdfleciejaaGreatDoorD42
import Derived.Test.YtlmekdfleciejaaGreatDoorD47
import Derived.Test.YtlmekdfleciejaaGreatDoorD45
import Derived.Test.YtlmekdfleciejaaGreatDoorD7
import Derived.Test.YtlmekdfleciejaaGreatDoorD43
import Derived.Test.YtlmekdfleciejaaGreatDoorD44
import Derived.Test.YtlmekdfleciejaaGreatDoorD11
import Derived.Test.YtlmekdfleciejaaGreatDoorD5
import Derived.Lib.Overlaps
import Derived.Lib.AppendZerosOnto
import Derived.Deep.RegionLaw
import Derived.Test.YtlmekdfleciejaaGreatDoorD49
import Derived.Test.YtlmekdfleciejaaGreatDoorD50
set_option maxRecDepth 100000
set_option maxHeartbeats 16000000
set_option linter.unusedSimpArgs false
namespace Go.Proofs.YtlmekdfleciejaaGreatDoor
open Go.RowKit
section
section
variable {P:Program} {x:Ctx} {s:St} {a:Act} {w:World} {m:Mem} {o:Oper} {out:Out}
end
/-! Results that lean on no memory -/
end
section
/-! Where code is walked: in a function's frame, or in a round of a range over a function -/
section
variable {P:Program} {ro:Option Nat}
end
section
variable {P:Program} {x:Ctx} {s s':St} {a:Act} {w:World} {m:Mem} {o:Oper} {ops:Array Oper} {Q:Exit->Act->World->Prop} {ro:Option Nat}
end
/-! Operations change places -/
end
section
section
variable {P:Program} {env:Env} {ops:Array Oper} {F:Nat->Foot}
/-! Which operations are ahead of which -/
end
/-! The region's laws -/
section
variable {P:Program} {x:Ctx} {ops:Array Oper} {Q:Exit->Act->World->Prop} {s s':St} {a:Act} {w:World} {m:Mem}
end
end
section
section
variable {P:Program} {env:Env} {nt:Nat} {Q:Exit->St->Prop} {s:St}
end
/-! Regions -/
section
variable {P:Program} {env:Env} {nt:Nat} {Q:Exit->St->Prop} {s:St} {ops:Array Oper}
/-! One operation -/
end
/-! A function -/
section
variable {P:Program} {x:Ctx} {s:St} {a:Act} {w:World} {m:Mem}
end
end
section
section
variable {P:Program} {env:Env} {f:Nat->AV} {d:Option Nat} {ty:TypeId} {ps:String} {af:Array Edge} {g:Option (Nat×Bool)}
end
section
variable {P:Program} {env:Env} {s:St}
end
end
section
section
variable {P:Program} {env:Env} {nt:Nat} {Q:Exit->St->Prop} {s:St}
end
section
variable {P:Program} {env:Env} {nt:Nat} {Q:Exit->St->Prop} {s:St}
end
end
section
section
variable {P:Program} {env:Env} {s:St}
theorem callOf_tmp {env:Env} {o:Oper} {f:Nat->AV} {t g:Nat} {aa:Array Operand} {ts:Array TypeId} (ho:o.op= .call { callee:= .value (.tmp t),args:=aa,argTypes:=ts }) (hf:Is (f t) (.lit (.func (.func g) #[] #[]))):zaN env f o=some (g,aa.toList.map (gt env f)):=by
 unfold zaN
 rw [ho]
 simp only
 rw [show f t= .lit (.func (.func g) #[] #[]) from hf]
end
section
variable {P:Program} {env:Env} {nt:Nat} {Q:Exit->St->Prop} {s:St}
end
end
section
section
variable {P:Program} {env:Env} {f:FuncId} {cs cs':List AV} {res res':AV}
end
section
variable {P:Program} {env:Env} {nt:Nat} {s:St}
end
/-! The rules that ask what evaluation shows. -/
section
variable {P:Program} {env:Env} {nt:Nat} {Q:Exit->St->Prop} {s:St}
end
end
section
theorem lg_iff {c:ChD} {act:List Int} :lgB c act=true↔(∀n,n<act.length->lgAt c act n=true)/\manyI act (kidsL c (-1) true)=1:=by
 unfold lgB ziO
 cases h:zax (lgAt c act) act.length with
 | some n=>
   refine⟨fun e=>by simp at e,fun e=> ?_⟩
   rw [zaH e.1] at h
   cases h
 | none=>
   simp only
   split
   ·rename_i e
    exact⟨fun _=>⟨fun n hn=>zbQ h n hn,e⟩,fun _=>rfl⟩
   ·rename_i e
    exact⟨fun e2=>by simp at e2,fun e2=>absurd e2.2 e⟩
/-! What is active at first -/
theorem filter_one {α:Type} [DecidableEq α] {p:α->Bool} {a:α} : ∀ {l:List α},l.Nodup->a∈l->(∀x∈l,p x=true↔x=a)->l.filter p=[a]
 | [],_,h,_=>by simp at h
 | x::l,hn,ha,hp=>by
   obtain⟨h1,h2⟩:=List.nodup_cons.1 hn
   by_cases e:x=a
   ·subst e
    rw [List.filter_cons,if_pos ((hp x (by simp)).2 rfl),List.filter_eq_nil_iff.2 fun y (hy:y∈l) hh=>h1 ((hp y (List.mem_cons_of_mem _ hy)).1 hh ▸ hy)]
   ·rw [List.filter_cons,if_neg fun hh=>e ((hp x (by simp)).1 hh)]
    exact filter_one h2 ((List.mem_cons.1 ha).resolve_left (Ne.symm e)) fun y hy=>hp y (List.mem_cons_of_mem _ hy)
theorem rises {p:Nat->Bool} {n:Nat} :((List.range n).filter p).Pairwise (· < ·):=List.Pairwise.sublist List.filter_sublist List.pairwise_lt_range
theorem lg_of {c:ChD} {l:List Nat} (hr:l.Pairwise (· < ·)) (hf: ∀k∈l,fitI c (zL l) k=true) (ht:manyI (zL l) (kidsL c (-1) true)=1):lgB c (zL l)=true:=by
 rw [lg_iff]
 refine⟨fun n hn=> ?_,ht⟩
 have hn':n<l.length:=by simpa [zL] using hn
 have e:(zL l)[n]? =some ((l[n]:Nat):Int):=by unfold zL; rw [List.getElem?_map,List.getElem?_eq_getElem hn']; rfl
 unfold lgAt
 rw [e]
 simp only [Bool.and_eq_true,Bool.or_eq_true,beq_iff_eq,decide_eq_true_eq]
 refine⟨?_,hf _ (List.getElem_mem hn')⟩
 by_cases h0:n=0
 ·exact .inl h0
 ·right
  have:=List.pairwise_iff_getElem.1 hr (n-1) n (by omega) hn' (by omega)
  have e2:(zL l).getD (n-1) 0=((l[n-1]'(by omega):Nat):Int):=by
   unfold zL
   rw [List.getD_eq_getElem?_getD,List.getElem?_map,List.getElem?_eq_getElem (by omega)]
   rfl
  rw [e2]
  omega
/-! What begins is few -/
end
section
theorem pfilter_succ (p:Nat->Bool) (j:Nat):(List.range (j+1)).filter p=if p j then(List.range j).filter p++[j] else(List.range j).filter p:=by
 rw [List.range_succ,List.filter_append]
 cases hb:p j<;>simp [hb]
theorem pfilter_len (p:Nat->Bool) (j:Nat):((List.range j).filter p).length<=j:=Nat.le_trans (List.length_filter_le ..) (by simp)
end
section
def riseL (c:ChD) (l:List Nat):List Nat:=(List.range c.states.length).filter fun k=>inL l (k:Int)
theorem inL_mem {l:List Nat} {k:Nat} :inL l (k:Int)=true↔k∈l:=by
 rw [zhV]
 constructor
 ·rintro⟨j,h1,h2⟩
  have:j=k:=by omega
  exact this ▸ h1
 ·exact fun h=>⟨k,h,rfl⟩
theorem rise_mem {c:ChD} {l:List Nat} {k:Nat} :k∈riseL c l↔k<c.states.length/\k∈l:=by
 unfold riseL
 rw [List.mem_filter,List.mem_range,inL_mem]
/-! One more is none -/
end
section
theorem rFits29_con (env:Env) (c:ChD) (h:Full c) (act:List Int) (hl:act.length<=1000000) (k:Nat) (s:StD) (hs:c.states[k]? =some s):Con Tryz.prog env 121 [.agg (chAV c), .seq 1 (act.map intAV),I k] (B (fitB c act k s)):=by
 have hlen:=h.few
 have hi:=(List.getElem?_eq_some_iff.1 hs).1
 have q0:((k:Nat):Int)< (c.states.length:Int):=by omega
 have f0:=zbw env c k true (by omega)
 have hK:=zbz h.toRight k true
 have f1:=ziz env act (kidsL c k true) hl (by omega)
 have f2:=za1 env s
 have f3:=zdF env act s.parent hl
 have hF:fitB c act k s=(!zat s&&(decide (s.parent<0)||act.contains s.parent)&&(if s.kind=1/\kidsL c k true≠[] then manyI act (kidsL c k true)==1 else if s.kind=2 then manyI act (kidsL c k true)==(kidsL c k true).length else true)):=rfl
 rw [hF]
 try clear hF
 generalize kidsL c k true=K at*
 cases hm:zat s with
 | true=>
   rw [hm] at f2
   refine zaa Tryz.func121 rfl Tryz.call121 (by rw [Tryz.ntmps121]; simp) ?_
   rw [Tryz.ntmps121,Tryz.results121]
   have F:=ai chAV.eq_1<|ai stAV.eq_1<|ai hs<|q0
   repeat (first | refine st ?_ | refine cC f2 ?_)
   exact aR
 | false=>
   rw [hm] at f2
   by_cases hp:s.parent<0
   ·have g0: ¬0<=s.parent:=by omega
    rw [decide_eq_true hp]
    by_cases e1:s.kind=1/\K≠[]
    ·have b1:(s.kind==1)=true:=by simpa using e1.1
     have q1:(0:Int)< (K.length:Int):=by have:=List.length_pos_iff.2 e1.2; omega
     have q2:(((manyI act K:Nat):Int)==1)=(manyI act K==1):=by rw [Bool.eq_iff_iff,beq_iff_eq,beq_iff_eq]; omega
     rw [if_pos e1]
     refine zaa Tryz.func121 rfl Tryz.call121 (by rw [Tryz.ntmps121]; simp) ?_
     rw [Tryz.ntmps121,Tryz.results121]
     have F:=ai chAV.eq_1<|ai stAV.eq_1<|ai hs<|ai q0<|ai g0<|ai b1<|ai q1<|q2
     repeat (first | refine st ?_ | refine cC f0 ?_ | refine cC f1 ?_ | refine cC f2 ?_)
     exact aR
    ·rw [if_neg e1]
     have q2:(((manyI act K:Nat):Int)==(K.length:Int))=(manyI act K==K.length):=by rw [Bool.eq_iff_iff,beq_iff_eq,beq_iff_eq]; omega
     by_cases e2:s.kind=2
     ·have b1:(s.kind==1)=false:=by simp [e2]
      have b2:(s.kind != 2)=false:=by simp [e2]
      rw [if_pos e2]
      refine zaa Tryz.func121 rfl Tryz.call121 (by rw [Tryz.ntmps121]; simp) ?_
      rw [Tryz.ntmps121,Tryz.results121]
      have F:=ai chAV.eq_1<|ai stAV.eq_1<|ai hs<|ai q0<|ai g0<|ai b1<|ai b2<|q2
      repeat (first | refine st ?_ | refine cC f0 ?_ | refine cC f1 ?_ | refine cC f2 ?_)
      exact aR
     ·have b2:(s.kind != 2)=true:=by simpa using e2
      rw [if_neg e2]
      by_cases e3:s.kind=1
      ·have b1:(s.kind==1)=true:=by simpa using e3
       have q1: ¬(0:Int)< (K.length:Int):=by
        have:K=[]:=Classical.byContradiction fun q=>e1 ⟨e3,q⟩
        rw [this]; simp
       refine zaa Tryz.func121 rfl Tryz.call121 (by rw [Tryz.ntmps121]; simp) ?_
       rw [Tryz.ntmps121,Tryz.results121]
       have F:=ai chAV.eq_1<|ai stAV.eq_1<|ai hs<|ai q0<|ai g0<|ai b1<|ai b2<|q1
       repeat (first | refine st ?_ | refine cC f0 ?_ | refine cC f1 ?_ | refine cC f2 ?_)
       exact aR
      ·have b1:(s.kind==1)=false:=by simpa using e3
       refine zaa Tryz.func121 rfl Tryz.call121 (by rw [Tryz.ntmps121]; simp) ?_
       rw [Tryz.ntmps121,Tryz.results121]
       have F:=ai chAV.eq_1<|ai stAV.eq_1<|ai hs<|ai q0<|ai g0<|ai b1<|b2
       repeat (first | refine st ?_ | refine cC f0 ?_ | refine cC f1 ?_ | refine cC f2 ?_)
       exact aR
   ·have g0:0<=s.parent:=by omega
    rw [decide_eq_false hp]
    cases hin:act.contains s.parent with
    | false=>
      rw [hin] at f3
      refine zaa Tryz.func121 rfl Tryz.call121 (by rw [Tryz.ntmps121]; simp) ?_
      rw [Tryz.ntmps121,Tryz.results121]
      have F:=ai chAV.eq_1<|ai stAV.eq_1<|ai hs<|ai q0<|g0
      repeat (first | refine st ?_ | refine cC f0 ?_ | refine cC f1 ?_ | refine cC f2 ?_ | refine cC f3 ?_)
      exact aR
    | true=>
      rw [hin] at f3
      by_cases e1:s.kind=1/\K≠[]
      ·have b1:(s.kind==1)=true:=by simpa using e1.1
       have q1:(0:Int)< (K.length:Int):=by have:=List.length_pos_iff.2 e1.2; omega
       have q2:(((manyI act K:Nat):Int)==1)=(manyI act K==1):=by rw [Bool.eq_iff_iff,beq_iff_eq,beq_iff_eq]; omega
       rw [if_pos e1]
       refine zaa Tryz.func121 rfl Tryz.call121 (by rw [Tryz.ntmps121]; simp) ?_
       rw [Tryz.ntmps121,Tryz.results121]
       have F:=ai chAV.eq_1<|ai stAV.eq_1<|ai hs<|ai q0<|ai g0<|ai b1<|ai q1<|q2
       repeat (first | refine st ?_ | refine cC f0 ?_ | refine cC f1 ?_ | refine cC f2 ?_ | refine cC f3 ?_)
       exact aR
      ·rw [if_neg e1]
       have q2:(((manyI act K:Nat):Int)==(K.length:Int))=(manyI act K==K.length):=by rw [Bool.eq_iff_iff,beq_iff_eq,beq_iff_eq]; omega
       by_cases e2:s.kind=2
       ·have b1:(s.kind==1)=false:=by simp [e2]
        have b2:(s.kind != 2)=false:=by simp [e2]
        rw [if_pos e2]
        refine zaa Tryz.func121 rfl Tryz.call121 (by rw [Tryz.ntmps121]; simp) ?_
        rw [Tryz.ntmps121,Tryz.results121]
        have F:=ai chAV.eq_1<|ai stAV.eq_1<|ai hs<|ai q0<|ai g0<|ai b1<|ai b2<|q2
        repeat (first | refine st ?_ | refine cC f0 ?_ | refine cC f1 ?_ | refine cC f2 ?_ | refine cC f3 ?_)
        exact aR
       ·have b2:(s.kind != 2)=true:=by simpa using e2
        rw [if_neg e2]
        by_cases e3:s.kind=1
        ·have b1:(s.kind==1)=true:=by simpa using e3
         have q1: ¬(0:Int)< (K.length:Int):=by
          have:K=[]:=Classical.byContradiction fun q=>e1 ⟨e3,q⟩
          rw [this]; simp
         refine zaa Tryz.func121 rfl Tryz.call121 (by rw [Tryz.ntmps121]; simp) ?_
         rw [Tryz.ntmps121,Tryz.results121]
         have F:=ai chAV.eq_1<|ai stAV.eq_1<|ai hs<|ai q0<|ai g0<|ai b1<|ai b2<|q1
         repeat (first | refine st ?_ | refine cC f0 ?_ | refine cC f1 ?_ | refine cC f2 ?_ | refine cC f3 ?_)
         exact aR
        ·have b1:(s.kind==1)=false:=by simpa using e3
         refine zaa Tryz.func121 rfl Tryz.call121 (by rw [Tryz.ntmps121]; simp) ?_
         rw [Tryz.ntmps121,Tryz.results121]
         have F:=ai chAV.eq_1<|ai stAV.eq_1<|ai hs<|ai q0<|ai g0<|ai b1<|b2
         repeat (first | refine st ?_ | refine cC f0 ?_ | refine cC f1 ?_ | refine cC f2 ?_ | refine cC f3 ?_)
         exact aR
def riseTo (l:List Nat) (j:Nat):List Nat:=(List.range j).filter fun k=>inL l (k:Int)
theorem rising_con (env:Env) (c:ChD) (hc:c.states.length<=4000) (l:List Nat) (hl:l.length<=1000000):Con Tryz.prog env 117 [.agg (chAV c), .seq 1 (l.map zae)] (.own 3 1 ((riseL c l).map zae)):=by
 show Con _ _ _ _ (.own _ 1 ((riseTo l c.states.length).map zae))
 refine zaa Tryz.func117 rfl Tryz.call117 (by rw [Tryz.ntmps117]; simp) ?_
 rw [Tryz.ntmps117,Tryz.results117]
 have F:=chAV.eq_1
 repeat refine st ?_
 refine zab (D:=Nat) (fun j vs=>[(1, .seq 1 (l.map zae)),(2, .loc 2 (vs 2) 0 0),(5, .row 7 (vs 7)),(6,I j)]) (fun j _=>[(2,⟨5,[chAV c],26,false⟩),(7,⟨1,(riseTo l j).map zae,3,true⟩)]) (fun j _ esc=>j<=c.states.length/\esc 7=false) (fun j=>c.states.length-j) 0 ?_ ?_ ?_ ?_
 ·exact⟨Nat.zero_le _,rfl⟩
 ·(simp only [go_sem,F])
 ·have F:=chAV.eq_1
  (simp only [go_sem,F])
  try rfl
 rintro j ws esc ⟨hj,e0⟩
 by_cases hlt:j<c.states.length
 ·have g1:=nlt hlt
  have g2:=zac hlt (by omega)
  have f1:=zhM env l j hl
  unfold nsAV at f1
  have hn:riseTo l (j+1)=if inL l (j:Int) then riseTo l j++[j] else riseTo l j:=pfilter_succ (fun k:Nat=>inL l (k:Int)) j
  have hle:(riseTo l j).length<=j:=pfilter_len (fun k:Nat=>inL l (k:Int)) j
  have hf:Fits ((riseTo l j).length+1) 8:=zah (by omega) (by omega)
  cases b1:inL l (j:Int) with
  | true=>
    rw [b1] at f1 hn
    rw [if_pos rfl] at hn
    have F:=ai chAV.eq_1<|ai zae.eq_1<|ai g1<|ai g2<|ai hf<|e0
    repeat (first | refine st ?_ | refine cC f1 ?_)
    refine⟨j+1,⟨hlt,by simp only [go_sem,e0]⟩, ?_, ?_,by omega⟩
    ·(simp only [go_sem,F])
    ·have F:=ai chAV.eq_1<|ai zae.eq_1<|hn
     (simp only [go_sem,List.map_append,F])
  | false=>
    rw [b1] at f1 hn
    rw [if_neg Bool.false_ne_true] at hn
    have F:=ai chAV.eq_1<|ai zae.eq_1<|ai g1<|ai g2<|e0
    repeat (first | refine st ?_ | refine cC f1 ?_)
    refine⟨j+1,⟨hlt,by simp only [go_sem,e0]⟩, ?_, ?_,by omega⟩
    ·(simp only [go_sem,F])
    ·have F:=ai chAV.eq_1<|ai zae.eq_1<|hn
     (simp only [go_sem,F])
 ·obtain rfl:j=c.states.length:=by omega
  have g1: ¬(c.states.length:Int)< (c.states.length:Int):=by omega
  have F:=ai chAV.eq_1<|ai g1<|e0
  repeat refine st ?_
  exact aR
end
section
theorem Domain_con (env:Env) (c:ChD) (h:Full c) (hs:Small c) (k:Nat) (t:TrD) (ht:c.trans[k]? =some t):Con Tryz.prog env 56 [zai c,I k] (.tuple [I (if t.target<0 then 0 else domE c t.src t.target),B (!decide (t.target<0))]):=by
 have f0:=zhx env c hs k t ht
 have f1:=zhg env c h.toRight hs t (h.src ht).1
 unfold trAV at f0 f1
 unfold zai at f0 f1 |-
 by_cases h0:t.target<0
 ·rw [if_pos h0,decide_eq_true h0]
  refine zaa Tryz.func56 rfl Tryz.call56 (by rw [Tryz.ntmps56]; simp) ?_
  rw [Tryz.ntmps56,Tryz.results56]
  have F:=h0
  repeat (first | refine st ?_ | refine cC f0 ?_ | refine cC f1 ?_)
  exact aR
 ·rw [if_neg h0,decide_eq_false h0]
  refine zaa Tryz.func56 rfl Tryz.call56 (by rw [Tryz.ntmps56]; simp) ?_
  rw [Tryz.ntmps56,Tryz.results56]
  have F:=h0
  repeat (first | refine st ?_ | refine cC f0 ?_ | refine cC f1 ?_)
  exact aR
end
section
theorem rCheck29g_con (env:Env) (c:ChD) (h:Full c) (act:List Int) (hl:act.length<=1000000):Con Tryz.prog env 69 [.agg (chAV c), .seq 1 (act.map intAV)] (.tuple [I (ziO c act).1,I (ziO c act).2]):=by
 have hlen:=h.few
 have f3:=zbw env c (-1) true (by omega)
 have hK:=zbz h.toRight (-1) true
 have f4:=ziz env act (kidsL c (-1) true) hl (by omega)
 refine zaa Tryz.func69 rfl Tryz.call69 (by rw [Tryz.ntmps69]; simp) ?_
 rw [Tryz.ntmps69,Tryz.results69]
 have F:=chAV.eq_1
 repeat refine st ?_
 refine zab (D:=Nat) (fun j vs=>[(1, .seq 1 (act.map intAV)),(2, .loc 2 (vs 2) 0 0),(6,I j)]) (fun _ _=>[(2,⟨5,[chAV c],26,false⟩)]) (fun j _ _=>j<=act.length/\ ∀m,m<j->lgAt c act m=true) (fun j=>act.length-j) 0 ?_ ?_ ?_ ?_
 ·exact⟨Nat.zero_le _,fun m hm=>absurd hm (by omega)⟩
 ·(simp only [go_sem,F])
 ·have F:=chAV.eq_1
  (simp only [go_sem,F])
  try rfl
 rintro j ws esc ⟨hj,hall⟩
 by_cases hlt:j<act.length
 ·obtain⟨x,hx⟩: ∃x,act[j]? =some x:=⟨act[j],List.getElem?_eq_getElem hlt⟩
  have q1:=nlt hlt
  have q2:=zac hlt (by omega)
  have q6:max x (-1)=if x< -1 then -1 else x:=by split<;>omega
  have hat:=zqt (c:=c) hx
  have f0:=zka env c x
  have bad:lgAt c act j=false->ziO c act=(1,max x (-1)):=fun hb=>zmf hx hall hb
  cases hz:inZ c x with
  | false=>
    rw [hz] at f0
    rw [bad (by rw [hat,zli hz,Bool.and_false])]
    have F:=ai chAV.eq_1<|ai hx<|ai q1<|q6
    repeat (first | refine st ?_ | refine cC f0 ?_)
    exact aR
  | true=>
    rw [hz] at f0
    obtain⟨k,s,rfl,hs,ha⟩:=zb0 hz
    have f2:=rFits29_con env c h act hl k s hs
    rw [zpw hs] at hat
    by_cases hj0:0<j
    ·have q3:(0:Int)< (j:Int):=by omega
     have q4:IntKind.i64.wrap ((j:Int)-1)=((j-1:Nat):Int):=by rw [zbU (by omega) (by omega)]; omega
     have hy:=zqo hj0 hlt
     have q5:((j-1:Nat):Int)< (act.length:Int):=by omega
     have b0:(j==0)=false:=by simp; omega
     generalize act.getD (j-1) 0=y at*
     by_cases h2:(k:Int)<=y
     ·rw [bad (by rw [hat,b0,decide_eq_false (by omega)]; rfl)]
      have F:=ai chAV.eq_1<|ai hx<|ai q1<|ai q3<|ai q4<|ai q5<|ai q6<|ai hy<|h2
      repeat (first | refine st ?_ | refine cC f0 ?_)
      exact aR
     cases hb:fitB c act k s with
     | false=>
       rw [hb] at f2 hat
       rw [bad (by rw [hat,Bool.and_false])]
       have F:=ai chAV.eq_1<|ai hx<|ai q1<|ai q3<|ai q4<|ai q5<|ai q6<|ai hy<|h2
       repeat (first | refine st ?_ | refine cC f0 ?_ | refine cC f2 ?_)
       exact aR
     | true=>
       rw [hb,b0,decide_eq_true (show y< (k:Int) by omega)] at hat
       rw [hb] at f2
       have F:=ai chAV.eq_1<|ai hx<|ai q1<|ai q2<|ai q3<|ai q4<|ai q5<|ai hy<|h2
       repeat (first | refine st ?_ | refine cC f0 ?_ | refine cC f2 ?_)
       refine⟨j+1,⟨hlt,fun m hm=>by rcases Nat.lt_succ_iff_lt_or_eq.1 hm with e | e; exact hall m e; rw [e]; exact hat⟩, ?_, ?_,by omega⟩
       ·(simp only [go_sem,F])
       ·have F:=chAV.eq_1
        (simp only [go_sem,F])
    ·have q3: ¬(0:Int)< (j:Int):=by omega
     have b0:(j==0)=true:=by simp; omega
     cases hb:fitB c act k s with
     | false=>
       rw [hb,b0] at hat
       rw [hb] at f2
       rw [bad (by rw [hat,Bool.and_false])]
       have F:=ai chAV.eq_1<|ai hx<|ai q1<|ai q3<|q6
       repeat (first | refine st ?_ | refine cC f0 ?_ | refine cC f2 ?_)
       exact aR
     | true=>
       rw [hb,b0] at hat
       rw [hb] at f2
       have F:=ai chAV.eq_1<|ai hx<|ai q1<|ai q2<|q3
       repeat (first | refine st ?_ | refine cC f0 ?_ | refine cC f2 ?_)
       refine⟨j+1,⟨hlt,fun m hm=>by rcases Nat.lt_succ_iff_lt_or_eq.1 hm with e | e; exact hall m e; rw [e]; exact hat⟩, ?_, ?_,by omega⟩
       ·(simp only [go_sem,F])
       ·have F:=chAV.eq_1
        (simp only [go_sem,F])
 ·obtain rfl:j=act.length:=by omega
  have q1: ¬(act.length:Int)< (act.length:Int):=by omega
  have hc1:ziO c act=if manyI act (kidsL c (-1) true)=1 then(0, -1) else(1, -1):=by
   unfold ziO
   rw [zaH hall]
  rw [hc1]
  by_cases hm:manyI act (kidsL c (-1) true)=1
  ·rw [if_pos hm]
   have hmi:((manyI act (kidsL c (-1) true):Nat):Int)=1:=by omega
   have F:=ai chAV.eq_1<|ai q1<|hmi
   repeat (first | refine st ?_ | refine cC f3 ?_ | refine cC f4 ?_)
   exact aR
  ·rw [if_neg hm]
   have hmi:(((manyI act (kidsL c (-1) true):Nat):Int) != 1)=true:=by simp; omega
   have F:=ai chAV.eq_1<|ai q1<|hmi
   repeat (first | refine st ?_ | refine cC f3 ?_ | refine cC f4 ?_)
   exact aR
end
section
/-! Legal states -/
theorem nat_rise {l:List Int} (h: ∀j,0<j->j<l.length->l.getD (j-1) 0<l.getD j 0):l.Pairwise (· < ·):=by
 rw [List.pairwise_iff_getElem]
 intro i j hi hj hij
 have key: ∀d,i+d+1<l.length->l.getD i 0<l.getD (i+d+1) 0:=fun d=>by
  induction d with
  | zero=>intro hd; simpa using h (i+1) (by omega) (by omega)
  | succ d ih=>
    intro hd
    have h1:=ih (by omega)
    have h2:=h (i+d+1+1) (by omega) (by omega)
    have e:i+(d+1)+1=i+d+1+1:=by omega
    rw [e]
    simp only [Nat.add_sub_cancel] at h2
    omega
 have:=key (j-i-1) (by omega)
 rw [show i+(j-i-1)+1=j by omega] at this
 simpa [List.getD_eq_getElem?_getD,List.getElem?_eq_getElem hi,List.getElem?_eq_getElem hj] using this
theorem lg_out {c:ChD} {act:List Int} (h:lgB c act=true):Lg c act:=by
 obtain⟨h1,h2⟩:=lg_iff.1 h
 have h3: ∀j (hj:j<act.length),(j==0||decide (act.getD (j-1) 0<act[j]))=true/\fitI c act act[j]=true:=fun j hj=>by
  have:=h1 j hj
  unfold lgAt at this
  rw [List.getElem?_eq_getElem hj] at this
  simpa only [Bool.and_eq_true] using this
 refine⟨nat_rise fun j h0 hj=> ?_,fun x hx=> ?_,h2⟩
 ·have:=(h3 j hj).1
  have hne:(j==0)=false:=by simp; omega
  rw [hne,Bool.false_or,decide_eq_true_eq] at this
  simpa [List.getD_eq_getElem?_getD,List.getElem?_eq_getElem hj] using this
 ·obtain⟨j,hj,rfl⟩:=List.mem_iff_getElem.1 hx
  have:=(h3 j hj).2
  unfold fitI at this
  split at this
  ·rename_i s hs; exact⟨s,hs,this⟩
  ·cases this
theorem Lg.nodup {c:ChD} {act:List Int} (h:Lg c act):act.Nodup:=h.rise.imp fun h=>by omega
theorem sort_memI {c:ChD} (hr:Right c) {l:List Int} (hl: ∀x∈l,inZ c x=true) {x:Int} :x∈zL (sortL c l)↔x∈l:=by
 have ha:l.all (inZ c)=true:=List.all_eq_true.2 hl
 unfold sortL
 rw [if_pos ha]
 constructor
 ·intro hx
  obtain⟨k,hk,rfl⟩:=List.mem_map.1 hx
  simpa using (List.mem_filter.1 hk).2
 ·intro hx
  have hz:=zag.1 (hl x hx)
  refine List.mem_map.2 ⟨x.toNat,List.mem_filter.2 ⟨?_, ?_⟩,by omega⟩
  ·exact(zkL hr _).2 (by omega)
  ·have e:((x.toNat:Nat):Int)=x:=by omega
   rw [e]
   simpa using hx
/-! Memories in their order -/
def putM:List MemD->MemD->List MemD
 | [],m=>[m]
 | x::r,m=>if x.1<m.1 then x::putM r m else if x.1=m.1 then m::r else m::x::r
theorem putM_mem {m p:MemD} : ∀ {l:List MemD},Srt l->(p∈putM l m↔p=m\/(p∈l/\p.1≠m.1))
 | [],_=>by simp [putM]
 | x::r,h=>by
   obtain⟨h1,h2⟩:=List.pairwise_cons.1 h
   unfold putM
   split
   ·rename_i hlt
    rw [List.mem_cons,putM_mem h2,List.mem_cons]
    constructor
    ·rintro(rfl | rfl | ⟨a,b⟩)
     ·exact .inr ⟨.inl rfl,by omega⟩
     ·exact .inl rfl
     ·exact .inr ⟨.inr a,b⟩
    ·rintro(rfl | ⟨rfl | a,b⟩)
     ·exact .inr (.inl rfl)
     ·exact .inl rfl
     ·exact .inr (.inr ⟨a,b⟩)
   ·split
    ·rename_i he
     rw [List.mem_cons,List.mem_cons]
     constructor
     ·rintro(rfl | a)
      ·exact .inl rfl
      ·exact .inr ⟨.inr a,by have:=h1 p a; omega⟩
     ·rintro(rfl | ⟨rfl | a,b⟩)
      ·exact .inl rfl
      ·exact absurd he b
      ·exact .inr a
    ·rename_i hn he
     rw [List.mem_cons,List.mem_cons]
     constructor
     ·rintro(rfl | rfl | a)
      ·exact .inl rfl
      ·exact .inr ⟨.inl rfl,by omega⟩
      ·exact .inr ⟨.inr a,by have:=h1 p a; omega⟩
     ·rintro(rfl | ⟨rfl | a,b⟩)
      ·exact .inl rfl
      ·exact .inr (.inl rfl)
      ·exact .inr (.inr a)
theorem putM_srt {m:MemD} : ∀ {l:List MemD},Srt l->Srt (putM l m)
 | [],_=>by simp [putM,Srt]
 | x::r,h=>by
   obtain⟨h1,h2⟩:=List.pairwise_cons.1 h
   unfold putM
   split
   ·rename_i hlt
    refine List.pairwise_cons.2 ⟨fun p hp=> ?_,putM_srt h2⟩
    rcases (putM_mem h2).1 hp with rfl | ⟨a,_⟩
    ·exact hlt
    ·exact h1 p a
   ·split
    ·rename_i he
     exact List.pairwise_cons.2 ⟨fun p hp=>by have:=h1 p hp; omega,h2⟩
    ·refine List.pairwise_cons.2 ⟨fun p hp=> ?_,h⟩
     rcases List.mem_cons.1 hp with rfl | hp
     ·omega
     ·have:=h1 p hp; omega
theorem srt_ext {a b:List MemD} (ha:Srt a) (hb:Srt b) (h: ∀p,p∈a↔p∈b):a=b:=by
 have na:a.Nodup:=ha.imp fun h e=>by rw [e] at h; omega
 have nb:b.Nodup:=hb.imp fun h e=>by rw [e] at h; omega
 exact List.Perm.eq_of_pairwise (fun x y _ _ h1 h2=>by omega) ha hb ((List.perm_ext_iff_of_nodup na nb).2 h)
/-! What is remembered -/
def underL (c:ChD) (l:List Int) (i:Int):List Int:=l.filter (aboveB c i)
def innerP (c:ChD) (l:List Int) (i:Int):Bool:= !(kidZ c i).any fun k=>l.contains k
def innerL (c:ChD) (l:List Int):List Int:=zeK (l.filter (innerP c l))
def lastKid (c:ChD) (act:List Int) (i:Int):List Int:=match ((kidZ c i).filter fun k=>act.contains k).getLast? with
 | some k=>[k]
 | none=>[]
def newV (c:ChD) (act:List Int) (i:Int) (h:Nat):List Int:=match c.states[h]? with
 | some s=>if s.kind=5 then innerL c (underL c act i) else lastKid c act i
 | none=>[]
def memTo_ (c:ChD) (act:List Int) (i:Int) (o:List MemD) (M:List Nat) (m:Nat):List MemD:=(M.take m).foldl (fun o (h:Nat)=>putM o ((h:Int),newV c act i h)) o
def remTo (c:ChD) (act gone:List Int) (o:List MemD) (j:Nat):List MemD:=(gone.take j).foldl (fun o i=>if zaL c i=true then memTo_ c act i o (memL c i) (memL c i).length else o) o
def remL (c:ChD) (act gone:List Int) (mem:List MemD):List MemD:=remTo c act gone mem gone.length
theorem memTo__of {c:ChD} {act:List Int} {i:Int} {M:List Nat} : ∀(m:Nat) {o:List MemD},m<=M.length->Srt o->Srt (memTo_ c act i o M m)/\ ∀p,p∈memTo_ c act i o M m↔(∃h∈M.take m,p=((h:Int),newV c act i h))\/(p∈o/\ ∀h∈M.take m,p.1≠(h:Int))
 | 0,o,_,hs=>⟨hs,fun p=>by simp [memTo_]⟩
 | m+1,o,hm,hs=>by
   obtain⟨k,hk⟩: ∃k,M[m]? =some k:=⟨M[m],List.getElem?_eq_getElem (by omega)⟩
   obtain⟨q1,q2⟩:=memTo__of (c:=c) (act:=act) (i:=i) (M:=M) m (o:=o) (by omega) hs
   have e:memTo_ c act i o M (m+1)=putM (memTo_ c act i o M m) ((k:Int),newV c act i k):=zdK _ _ hk
   have e2: ∀x,x∈M.take (m+1)↔x∈M.take m\/x=k:=fun x=>by rw [List.take_add_one,hk]; simp
   rw [e]
   refine⟨putM_srt q1,fun p=> ?_⟩
   rw [putM_mem q1,q2]
   simp only [e2]
   constructor
   ·rintro(rfl | ⟨⟨h,a,rfl⟩ | ⟨a,b⟩,d⟩)
    ·exact .inl ⟨k, .inr rfl,rfl⟩
    ·exact .inl ⟨h, .inl a,rfl⟩
    ·exact .inr ⟨a,fun h hh=>hh.elim (b h) fun e=>by rw [e]; exact d⟩
   ·rintro(⟨h,a | rfl,rfl⟩ | ⟨a,b⟩)
    ·by_cases e:h=k
     ·exact .inl (by rw [e])
     ·exact .inr ⟨.inl ⟨h,a,rfl⟩,by simp; omega⟩
    ·exact .inl rfl
    ·exact .inr ⟨.inr ⟨a,fun h hh=>b h (.inl hh)⟩,b k (.inr rfl)⟩
theorem memL_iff {c:ChD} {i:Int} {k:Nat} :k∈memL c i↔ ∃s,c.states[k]? =some s/\inZ c i=true/\s.parent=i/\zat s=true:=by
 unfold memL memP
 rw [List.mem_filter,List.mem_range]
 constructor
 ·rintro⟨h1,h2⟩
  rw [List.getElem?_eq_getElem h1] at h2 |-
  simp only [Bool.and_eq_true,beq_iff_eq] at h2
  exact⟨_,rfl,h2.1,h2.2.1,h2.2.2⟩
 ·rintro⟨s,hs,h1,h2,h3⟩
  refine⟨(List.getElem?_eq_some_iff.1 hs).1, ?_⟩
  rw [hs]
  simp [h1,h2,h3]
def touch (c:ChD) (gone:List Int) (h:Int):Prop:= ∃i∈gone,zaL c i=true/\ ∃k∈memL c i,h=(k:Int)
theorem remTo_of {c:ChD} {act gone:List Int} {o:List MemD} (hs:Srt o): ∀(j:Nat),j<=gone.length->Srt (remTo c act gone o j)/\ ∀p,p∈remTo c act gone o j↔(∃i∈gone.take j,zaL c i=true/\ ∃k∈memL c i,p=((k:Int),newV c act i k))\/(p∈o/\ ¬touch c (gone.take j) p.1)
 | 0,_=>⟨hs,fun p=>by simp [remTo,touch]⟩
 | j+1,hj=>by
   obtain⟨i,hi⟩: ∃i,gone[j]? =some i:=⟨gone[j],List.getElem?_eq_getElem (by omega)⟩
   obtain⟨q1,q2⟩:=remTo_of (c:=c) (act:=act) (gone:=gone) hs j (by omega)
   have e:remTo c act gone o (j+1)=if zaL c i=true then memTo_ c act i (remTo c act gone o j) (memL c i) (memL c i).length else remTo c act gone o j:=zdK _ _ hi
   have e2: ∀x,x∈gone.take (j+1)↔x∈gone.take j\/x=i:=fun x=>by rw [List.take_add_one,hi]; simp
   rw [e]
   split
   ·rename_i hp
    obtain⟨p1,p2⟩:=memTo__of (c:=c) (act:=act) (i:=i) (M:=memL c i) _ (Nat.le_refl _) q1
    refine⟨p1,fun p=> ?_⟩
    rw [p2,q2,List.take_length]
    unfold touch
    simp only [e2]
    constructor
    ·rintro(⟨h,a,rfl⟩ | ⟨⟨i',a,b,k,d',rfl⟩ | ⟨a,b⟩,d⟩)
     ·exact .inl ⟨i, .inr rfl,hp,h,a,rfl⟩
     ·exact .inl ⟨i', .inl a,b,k,d',rfl⟩
     ·refine .inr ⟨a, ?_⟩
      rintro⟨i',a' | rfl,b',k,d',e'⟩
      ·exact b ⟨i',a',b',k,d',e'⟩
      ·exact d k d' e'
    ·rintro(⟨i',a | rfl,b,k,d,rfl⟩ | ⟨a,b⟩)
     ·by_cases e:i'=i
      ·subst e
       exact .inl ⟨k,d,rfl⟩
      ·refine .inr ⟨.inl ⟨i',a,b,k,d,rfl⟩,fun h hh he=>e ?_⟩
       have he:((k:Nat):Int)=h:=he
       have he:k=h:=by omega
       subst he
       obtain⟨s,hs,_,h1,_⟩:=memL_iff.1 d
       obtain⟨s',hs',_,h2,_⟩:=memL_iff.1 hh
       rw [hs] at hs'
       cases hs'
       rw [<-h1, <-h2]
     ·exact .inl ⟨k,d,rfl⟩
     ·refine .inr ⟨.inr ⟨a,fun⟨i',a',b',r⟩=>b ⟨i', .inl a',b',r⟩⟩,fun h hh he=>b ⟨i, .inr rfl,hp,h,hh,he⟩⟩
   ·rename_i hp
    refine⟨q1,fun p=> ?_⟩
    rw [q2]
    unfold touch
    simp only [e2]
    constructor
    ·rintro(⟨i',a,b,r⟩ | ⟨a,b⟩)
     ·exact .inl ⟨i', .inl a,b,r⟩
     ·refine .inr ⟨a, ?_⟩
      rintro⟨i',a' | rfl,b',r⟩
      ·exact b ⟨i',a',b',r⟩
      ·exact hp b'
    ·rintro(⟨i',a | rfl,b,r⟩ | ⟨a,b⟩)
     ·exact .inl ⟨i',a,b,r⟩
     ·exact absurd b hp
     ·exact .inr ⟨a,fun⟨i',a',b',r⟩=>b ⟨i', .inl a',b',r⟩⟩
theorem rem_of {c:ChD} {act gone:List Int} {o:List MemD} (hs:Srt o):Srt (remL c act gone o)/\ ∀p,p∈remL c act gone o↔(∃i∈gone,zaL c i=true/\ ∃k∈memL c i,p=((k:Int),newV c act i k))\/(p∈o/\ ¬touch c gone p.1):=by
 have:=remTo_of (c:=c) (act:=act) (gone:=gone) hs _ (Nat.le_refl _)
 rw [List.take_length] at this
 exact this
/-! As the document says -/
def ofM (mem:List MemD) (h:Int):List Int:=match mem.find? (fun m=>m.1==h) with
 | some m=>m.2
 | none=>[]
def rinL (c:ChD) (l:List Int):List Nat:=(List.range c.states.length).filter fun i:Nat=>l.contains (i:Int)&&(manyI l (kidsL c i true)==0)
def runderL (c:ChD) (l:List Int) (i:Int):List Int:=(zL (sortL c l)).filter (aboveB c i)
def refV (c:ChD) (act gone:List Int) (mem:List MemD) (h:Nat):List Int:=match c.states[h]? with
 | some s=>if zat s=true then(if gone.contains s.parent=true then(if s.kind=5 then zL (rinL c (runderL c act s.parent)) else(kidZ c s.parent).filter fun k=>act.contains k) else ofM mem h) else []
 | none=>[]
def remRTo (c:ChD) (act gone:List Int) (mem:List MemD) (j:Nat):List MemD:=((List.range j).filter fun h=> !(refV c act gone mem h).isEmpty).map fun h:Nat=>((h:Int),refV c act gone mem h)
def remR (c:ChD) (act gone:List Int) (mem:List MemD):List MemD:=remRTo c act gone mem c.states.length
theorem ofM_mem {mem:List MemD} (hs:Srt mem) {p:MemD} (hp:p∈mem):ofM mem p.1=p.2:=by
 unfold ofM
 cases hf:mem.find? (fun m=>m.1==p.1) with
 | none=>
   rw [List.find?_eq_none] at hf
   exact absurd (beq_self_eq_true p.1) (hf p hp)
 | some q=>
   have h1:=List.find?_some hf
   have h2:=List.mem_of_find?_eq_some hf
   simp only [beq_iff_eq] at h1
   have na:q=p:=by
    obtain⟨a,ha,rfl⟩:=List.mem_iff_getElem.1 h2
    obtain⟨b,hb,rfl⟩:=List.mem_iff_getElem.1 hp
    rcases Nat.lt_trichotomy a b with h | h | h
    ·have:=List.pairwise_iff_getElem.1 hs a b ha hb h; omega
    ·subst h; rfl
    ·have:=List.pairwise_iff_getElem.1 hs b a hb ha h; omega
   rw [na]
theorem mems_of {c:ChD} {mem:List MemD} (hs:Srt mem) (hm: ∀m∈mem,memB c m=true):zc3 c mem=true:=by
 refine List.all_eq_true.2 fun j hj=> ?_
 have hj:=List.mem_range.1 hj
 unfold zgN
 rw [List.getElem?_eq_getElem hj]
 simp only
 rw [hm _ (List.getElem_mem hj),Bool.true_and]
 by_cases h0:j=0
 ·simp [h0]
 ·have:=List.pairwise_iff_getElem.1 hs (j-1) j (by omega) hj (by omega)
  simp [List.getD_eq_getElem?_getD,List.getElem?_eq_getElem (show j-1<mem.length by omega),this]
theorem memB_of {c:ChD} {m:MemD} (h:memB c m=true): ∃(k:Nat) (s:StD),m.1=(k:Int)/\c.states[k]? =some s/\zat s=true/\m.2≠[]:=by
 unfold memB at h
 split at h
 ·rename_i s hs
  have h0:0<=m.1/\c.states[m.1.toNat]? =some s:=by
   unfold at_ at hs
   split at hs
   ·exact⟨by assumption,hs⟩
   ·cases hs
  refine⟨m.1.toNat,s,by omega,h0.2, ?_, ?_⟩
  ·unfold zat
   split at h
   ·rename_i e; simp [e]
   ·rw [Bool.and_eq_true] at h; rw [h.1]; simp
  ·split at h
   ·rw [Bool.and_eq_true,decide_eq_true_eq] at h
    intro e
    rw [e] at h
    simp at h
   ·unfold deepB at h
    simp only [Bool.and_eq_true] at h
    exact zna h.2.1.1.1
 ·cases h
theorem many_pos {l:List Int} {ks:List Nat} :manyI l ks=0↔((zL ks).any fun k=>l.contains k)=false:=by
 rw [zei,List.any_eq_false]
 simp
theorem rise_eq {a b:List Int} (ha:a.Pairwise (· < ·)) (hb:b.Pairwise (· < ·)) (h: ∀x,x∈a↔x∈b):a=b:=by
 have na:a.Nodup:=ha.imp fun h=>by omega
 have nb:b.Nodup:=hb.imp fun h=>by omega
 exact List.Perm.eq_of_pairwise (fun x y _ _ h1 h2=>by omega) ha hb ((List.perm_ext_iff_of_nodup na nb).2 h)
theorem sortZ_rise {l:List Int} (hn:l.Nodup):(zeK l).Pairwise (· < ·)/\ ∀x,x∈zeK l↔x∈l:=by
 have hs:(zeK l).Pairwise (fun x y:Int=>decide (x<=y)=true):=List.pairwise_mergeSort (fun a b c=>by simp; omega) (fun a b=>by simp; omega) _
 have hp:(zeK l).Perm l:=List.mergeSort_perm ..
 have hn2:(zeK l).Nodup:=hp.nodup_iff.2 hn
 refine⟨(List.pairwise_and_iff.2 ⟨hs,hn2⟩).imp fun⟨a,b⟩=> ?_,fun x=>hp.mem_iff⟩
 have a:=of_decide_eq_true a
 omega
theorem zL_rise {p:Nat->Bool} {n:Nat} :(zL ((List.range n).filter p)).Pairwise (· < ·):=by
 unfold zL
 rw [List.pairwise_map]
 exact(rises (p:=p) (n:=n)).imp fun h=>by omega
theorem inner_same {c:ChD} (hr:Right c) {act:List Int} (hg:Lg c act) (i:Int):innerL c (underL c act i)=zL (rinL c (runderL c act i)):=by
 have hz: ∀x∈act,inZ c x=true:=fun x hx=>by obtain⟨_,_,h,_⟩:=hg.of hx; exact h
 have hu: ∀x,x∈runderL c act i↔x∈underL c act i:=fun x=>by
  unfold runderL underL
  rw [List.mem_filter,List.mem_filter,sort_memI hr hz]
 have hn:((underL c act i).filter (innerP c (underL c act i))).Nodup:=(hg.nodup.sublist List.filter_sublist).sublist List.filter_sublist
 obtain⟨r1,r2⟩:=sortZ_rise hn
 refine rise_eq r1 zL_rise fun x=> ?_
 unfold innerL
 rw [r2,List.mem_filter]
 have hmany: ∀k:Nat,innerP c (underL c act i) k=(manyI (runderL c act i) (kidsL c k true)==0):=fun k=>by
  rw [zdJ hu,Bool.eq_iff_iff]
  unfold innerP
  rw [Bool.not_eq_true',beq_iff_eq,many_pos]
 constructor
 ·rintro⟨h1,h2⟩
  have hx:x∈act:=(List.mem_filter.1 h1).1
  have:=zag.1 (hz x hx)
  obtain⟨k,rfl⟩: ∃k:Nat,x=k:=⟨x.toNat,by omega⟩
  refine List.mem_map.2 ⟨k,List.mem_filter.2 ⟨List.mem_range.2 (by omega), ?_⟩,rfl⟩
  rw [Bool.and_eq_true,List.contains_iff_mem, <-hmany]
  exact⟨(hu _).2 h1,h2⟩
 ·intro hx
  obtain⟨k,hk,rfl⟩:=List.mem_map.1 hx
  have:=(List.mem_filter.1 hk).2
  rw [Bool.and_eq_true,List.contains_iff_mem, <-hmany] at this
  exact⟨(hu _).1 this.1,this.2⟩
theorem last_one {l:List Int} {x:Int} (h:l=[x]):l.getLast? =some x:=by rw [h]; rfl
theorem kid_same {c:ChD} {act:List Int} {i:Int} (h:manyI act (kidsL c i true)=1): ∃k,k∈kidZ c i/\k∈act/\lastKid c act i=[k]/\((kidZ c i).filter fun k=>act.contains k)=[k]:=by
 rw [<-zkk] at h
 obtain⟨k,hk⟩:=List.length_eq_one_iff.1 h
 have hm:k∈(kidZ c i).filter fun k=>act.contains k:=by rw [hk]; simp
 obtain⟨h1,h2⟩:=List.mem_filter.1 hm
 refine⟨k,h1,by simpa using h2, ?_,hk⟩
 unfold lastKid
 rw [last_one hk]
theorem inner_has {c:ChD} (hr:Right c) {act:List Int} (i:Int): ∀(n:Nat) (x:Int),(c.states.length:Int)<=x+n->x∈underL c act i-> ∃y∈innerL c (underL c act i),y=x\/x∈upL c y
 | 0,x,hn,hx=>by
   have ha:i∈upL c x:=by simpa [aboveB] using (List.mem_filter.1 hx).2
   cases hh:inZ c x with
   | true=>have:=zag.1 hh; omega
   | false=>rw [zbq hh] at ha; simp at ha
 | n+1,x,hn,hx=>by
   have hxm:=List.mem_filter.1 hx
   have ha:i∈upL c x:=by simpa [aboveB] using hxm.2
   by_cases hi:innerP c (underL c act i) x=true
   ·refine⟨x, ?_, .inl rfl⟩
    unfold innerL
    exact(List.mergeSort_perm ..).mem_iff.2 (List.mem_filter.2 ⟨hx,hi⟩)
   ·have hi:((kidZ c x).any fun k=>(underL c act i).contains k)=true:=by
     unfold innerP at hi
     simpa using hi
    obtain⟨k,hk,hku⟩:=List.any_eq_true.1 hi
    obtain⟨k1,k2,k3⟩:=zcz hr hk
    obtain⟨y,hy,hyk⟩:=inner_has hr i n k (by omega) (by simpa using hku)
    have hxk:x∈upL c k:=(zbr hr k1).2 (.inl k2.symm)
    refine⟨y,hy, .inr ?_⟩
    rcases hyk with rfl | hyk
    ·exact hxk
    ·exact zdy hr ((c.states.length+1)) y k x (by
      cases hh:inZ c y with
      | true=>have:=zag.1 hh; omega
      | false=>rw [zbq hh] at hyk; simp at hyk) hyk hxk
theorem deep_new {c:ChD} (h:Full c) {act:List Int} (hg:Lg c act) {p:Int} (hp:p∈act) (hpl:zaL c p=true) (hk:kidsL c p true≠[]):zmq c p (innerL c (underL c act p))=true:=by
 have hr:=h.toRight
 have hz: ∀x∈act,inZ c x=true:=fun x hx=>by obtain⟨_,_,h,_⟩:=hg.of hx; exact h
 have hub: ∀x∈underL c act p,x∈act/\aboveB c p x=true:=fun x hx=>List.mem_filter.1 hx
 have hn:((underL c act p).filter (innerP c (underL c act p))).Nodup:=(hg.nodup.sublist List.filter_sublist).sublist List.filter_sublist
 obtain⟨r1,r2⟩:=sortZ_rise hn
 have hin: ∀x,x∈innerL c (underL c act p)↔x∈underL c act p/\innerP c (underL c act p) x=true:=fun x=>by unfold innerL; rw [r2,List.mem_filter]
 have hkid: ∀x k,(x=p\/x∈underL c act p)->k∈kidZ c x->(k∈underL c act p↔k∈act):=fun x k hx hk=>by
  obtain⟨k1,k2,_⟩:=zcz hr hk
  refine⟨fun hh=>(hub k hh).1,fun hh=>List.mem_filter.2 ⟨hh,(zbg hr k1).2 ?_⟩⟩
  rw [k2]
  exact hx.imp id fun hx=>(hub x hx).2
 have hpo:=hg.of hp
 obtain⟨sp,hsp,hzp,_,_,hp1,_⟩:=hpo
 have hkp:sp.kind=1:=by rw [zcF hsp] at hpl; simpa using hpl
 obtain⟨k0,k1,k2,_,_⟩:=kid_same (hp1 hkp hk)
 have hk0:k0∈underL c act p:=(hkid p k0 (.inl rfl) k1).2 k2
 obtain⟨y0,hy0,_⟩:=inner_has hr p (c.states.length+1) k0 (by have:=zag.1 (hz k0 k2); omega) hk0
 have hne:innerL c (underL c act p)≠[]:=fun e=>by rw [e] at hy0; simp at hy0
 have hrise:zdd (innerL c (underL c act p))=true:=by
  unfold zdd
  rw [Bool.and_eq_true,List.all_eq_true]
  refine⟨by simpa using hne,fun j hj=> ?_⟩
  have hj:=List.mem_range.1 hj
  unfold upB
  by_cases h0:j=0
  ·simp [h0]
  ·have:=List.pairwise_iff_getElem.1 r1 (j-1) j (by unfold innerL at hj; omega) hj (by omega)
   rw [Bool.or_eq_true,decide_eq_true_eq]
   right
   rw [List.getD_eq_getElem?_getD,List.getD_eq_getElem?_getD,List.getElem?_eq_getElem hj,List.getElem?_eq_getElem (show j-1< (innerL c (underL c act p)).length by omega)]
   exact this
 have hleaf: ∀x∈innerL c (underL c act p),kidsL c x true=[]:=fun x hx=>by
  obtain⟨q1,q2⟩:=(hin x).1 hx
  have hxa:=(hub x q1).1
  obtain⟨s,hs,_,hm,_,f1,f2⟩:=hg.of hxa
  have hno: ∀k∈kidZ c x,k∉act:=fun k hk hh=>by
   unfold innerP at q2
   have:((kidZ c x).any fun k=>(underL c act p).contains k)=true:=List.any_eq_true.2 ⟨k,hk,by simpa using (hkid x k (.inr q1) hk).2 hh⟩
   rw [this] at q2
   cases q2
  have h0:=zei.2 hno
  apply Classical.byContradiction
  intro hne
  rcases zlD h hs with⟨e,_⟩ | ⟨e,_⟩ | ⟨_,e⟩ | ⟨_,e⟩
  ·have:=f1 e hne; omega
  ·have:=f2 e; rw [h0] at this; exact hne (List.eq_nil_of_length_eq_zero this.symm)
  ·exact hne e
  ·exact hne e
 have hmem: ∀x,x∈deepRA c p (innerL c (underL c act p))↔x∈underL c act p\/x=p:=fun x=>by
  unfold deepRA
  rw [List.mem_append,List.mem_singleton,zfC hr fun x hx=>hz x (hub x ((hin x).1 hx).1).1,zdR.2]
  constructor
  ·rintro((a | ⟨i,a,b,d,e⟩) | a)
   ·exact .inl ((hin x).1 a).1
   ·have hia:=(hub i ((hin i).1 a).1).1
    exact .inl (List.mem_filter.2 ⟨hg.up hr (c.states.length+1) i x (by have:=zag.1 (hz i hia); omega) hia b d,e⟩)
   ·exact .inr a
  ·rintro(a | a)
   ·obtain⟨y,hy,e | e⟩:=inner_has hr p (c.states.length+1) x (by have:=zag.1 (hz x (hub x a).1); omega) a
    ·exact .inl (.inl (by rw [<-e]; exact hy))
    ·exact .inl (.inr ⟨y,hy,e,(zag.1 (hz x (hub x a).1)).1,(hub x a).2⟩)
   ·exact .inr a
 unfold zmq
 rw [hrise,Bool.true_and,Bool.and_eq_true,List.all_eq_true,List.all_eq_true]
 refine⟨fun x hx=> ?_,fun x hx=> ?_⟩
 ·obtain⟨q1,_⟩:=(hin x).1 hx
  obtain⟨q3,q4⟩:=hub x q1
  obtain⟨s,hs,_,hm,_⟩:=hg.of q3
  unfold zbt
  rw [q4,hs,hleaf x hx]
  simp [hm]
 ·have hx:=(hmem x).1 hx
  have hxa:x∈act:=hx.elim (fun a=>(hub x a).1) fun a=>by rw [a]; exact hp
  obtain⟨s,hs,_,hm,_,f1,f2⟩:=hg.of hxa
  have hmany:manyI (deepRA c p (innerL c (underL c act p))) (kidsL c x true)=manyI act (kidsL c x true):=by
   unfold manyI
   congr 1
   apply List.filter_congr
   intro k hk
   have hkz:(k:Int)∈kidZ c x:=List.mem_map.2 ⟨k,hk,rfl⟩
   rw [Bool.eq_iff_iff,List.contains_iff_mem,List.contains_iff_mem,hmem]
   refine⟨fun hh=>hh.elim (fun a=>(hub _ a).1) fun a=>by rw [a]; exact hp,fun hh=> .inl ((hkid x k ?_ hkz).2 hh)⟩
   exact hx.symm
  unfold zbv
  rw [hs]
  simp only
  rw [hmany]
  rcases zlD h hs with⟨e,_⟩ | ⟨e,_⟩ | ⟨e,_⟩ | ⟨e,_⟩
  ·by_cases hne:kidsL c x true=[]
   ·simp [e,hne,manyI]
   ·have:=f1 e hne
    have hlen:0< (kidsL c x true).length:=List.length_pos_iff.2 hne
    simp [e,this]
    omega
  ·simp [e,f2 e]
  ·simp [e]
  ·rcases e with e | e<;>simp [e]
theorem new_same {c:ChD} (h:Full c) {act:List Int} (hg:Lg c act) {k:Nat} {s:StD} (hs:c.states[k]? =some s) (hm:zat s=true) (hp:s.parent∈act):
 newV c act s.parent k=(if s.kind=5 then zL (rinL c (runderL c act s.parent)) else(kidZ c s.parent).filter fun k=>act.contains k)/\memB c ((k:Int),newV c act s.parent k)=true:=by
 obtain⟨h1,h2,h3,h4,h5⟩:=zqw h hs hm
 have hat:at_ c (k:Int)=some s:=by rw [zbp]; exact hs
 have hv:newV c act s.parent k=if s.kind=5 then innerL c (underL c act s.parent) else lastKid c act s.parent:=by
  unfold newV
  rw [hs]
 have hB: ∀v,memB c ((k:Int),v)=if s.kind=4 then decide (v.length=1)&&(kidZ c s.parent).contains (v.getD 0 0) else(s.kind==5)&&deepB c s.parent v:=fun v=>by
  unfold memB
  simp only [hat]
 by_cases e:s.kind=5
 ·rw [if_pos e] at hv
  rw [hv,hB,if_pos e,if_neg (by omega)]
  refine⟨inner_same h.toRight hg _, ?_⟩
  rw [zjy h h2,deep_new h hg hp h1 h3,e]
  rfl
 ·rw [if_neg e] at hv
  rw [hv,hB,if_neg e,if_pos (by omega)]
  obtain⟨sp,hsp,_,_,_,f1,_⟩:=hg.of hp
  have hkp:sp.kind=1:=by rw [zcF hsp] at h1; simpa using h1
  obtain⟨q,q1,q2,q3,q4⟩:=kid_same (f1 hkp h3)
  rw [q3,q4]
  refine⟨rfl, ?_⟩
  rw [Bool.and_eq_true]
  exact⟨rfl,List.contains_iff_mem.2 q1⟩
theorem remember_same {c:ChD} (h:Full c) {act gone:List Int} {mem:List MemD} (hl:lgB c act=true) (hm:zc3 c mem=true) (hgo: ∀x∈gone,x∈act):remL c act gone mem=remR c act gone mem/\zc3 c (remL c act gone mem)=true:=by
 have hg:=lg_out hl
 obtain⟨hs,hmb⟩:=zkf hm
 obtain⟨r1,r2⟩:=rem_of (c:=c) (act:=act) (gone:=gone) hs
 have hall: ∀p∈remL c act gone mem,memB c p=true:=fun p hp=>by
  rcases (r2 p).1 hp with⟨i,hi,hpl,k,hk,rfl⟩ | ⟨hp,_⟩
  ·obtain⟨s,hs,_,rfl,hmy⟩:=memL_iff.1 hk
   exact(new_same h hg hs hmy (hgo _ hi)).2
  ·exact hmb p hp
 refine⟨srt_ext r1 ?_ fun p=> ?_,mems_of r1 hall⟩
 ·unfold remR remRTo Srt
  rw [List.pairwise_map]
  exact(rises (p:=fun h=> !(refV c act gone mem h).isEmpty) (n:=c.states.length)).imp fun h=>by simp only; omega
 ·have href: ∀ {k:Nat} {s:StD},c.states[k]? =some s->zat s=true->refV c act gone mem k=if gone.contains s.parent=true then newV c act s.parent k else ofM mem k:=fun {k s} hs hmy=>by
   unfold refV
   rw [hs]
   simp only
   rw [if_pos hmy]
   split
   ·rename_i hc
    exact((new_same h hg hs hmy (hgo _ (List.contains_iff_mem.1 hc))).1).symm
   ·rfl
  have hR:p∈remR c act gone mem↔ ∃k:Nat,k<c.states.length/\refV c act gone mem k≠[]/\p=((k:Int),refV c act gone mem k):=by
   unfold remR remRTo
   rw [List.mem_map]
   constructor
   ·rintro⟨k,hk,rfl⟩
    obtain⟨a,b⟩:=List.mem_filter.1 hk
    exact⟨k,List.mem_range.1 a,by simpa using b,rfl⟩
   ·rintro⟨k,a,b,rfl⟩
    exact⟨k,List.mem_filter.2 ⟨List.mem_range.2 a,by simpa using b⟩,rfl⟩
  rw [hR]
  constructor
  ·intro hp
   obtain⟨k,s,e1,hs',hmy,hne⟩:=memB_of (hall p hp)
   have hv:refV c act gone mem k=p.2:=by
    rw [href hs' hmy]
    rcases (r2 p).1 hp with⟨i,hi,hpl,k',hk',rfl⟩ | ⟨hpm,hnt⟩
    ·obtain⟨s2,hs2,_,e2,_⟩:=memL_iff.1 hk'
     have e1':((k':Nat):Int)=k:=e1
     have:k'=k:=by omega
     subst this
     rw [hs'] at hs2
     cases hs2
     rw [if_pos (by rw [e2]; exact List.contains_iff_mem.2 hi),e2]
    ·rw [if_neg, <-e1,ofM_mem hs hpm]
     intro hc
     have hi:=List.contains_iff_mem.1 hc
     obtain⟨p1,_,_,p4,_⟩:=zqw h hs' hmy
     exact hnt ⟨s.parent,hi,p1,k,memL_iff.2 ⟨s,hs',p4,rfl,hmy⟩,e1⟩
   refine⟨k,(List.getElem?_eq_some_iff.1 hs').1,by rw [hv]; exact hne, ?_⟩
   rw [hv, <-e1]
  ·rintro⟨k,hk,hne,rfl⟩
   obtain⟨s,hs'⟩: ∃s,c.states[k]? =some s:=⟨_,List.getElem?_eq_getElem hk⟩
   have hmy:zat s=true:=by
    cases hb:zat s with
    | true=>rfl
    | false=>
      unfold refV at hne
      rw [hs'] at hne
      simp [hb] at hne
   obtain⟨p1,_,_,p4,_⟩:=zqw h hs' hmy
   rw [href hs' hmy] at hne |-
   rw [r2]
   split
   ·rename_i hc
    exact .inl ⟨s.parent,List.contains_iff_mem.1 hc,p1,k,memL_iff.2 ⟨s,hs',p4,rfl,hmy⟩,rfl⟩
   ·rename_i hc
    rw [if_neg hc] at hne
    refine .inr ⟨?_, ?_⟩
    ·apply Classical.byContradiction
     intro hno
     cases hf:mem.find? (fun m=>m.1==(k:Int)) with
     | none=>unfold ofM at hne; rw [hf] at hne; exact hne rfl
     | some q=>
       have a:=List.find?_some hf
       have b:=List.mem_of_find?_eq_some hf
       simp only [beq_iff_eq] at a
       have:=ofM_mem hs b
       rw [a] at this
       rw [this, <-a] at hno
       exact hno b
    ·rintro⟨i,hi,_,k',hk',e⟩
     have e':((k:Nat):Int)=k':=e
     have e:k=k':=by omega
     subst e
     obtain⟨s2,hs2,_,e2,_⟩:=memL_iff.1 hk'
     rw [hs'] at hs2
     cases hs2
     rw [<-e2] at hi
     exact hc (List.contains_iff_mem.2 hi)
/-! Moves -/
theorem comp_specI (l:List Int) (hs:l.Pairwise (· <= ·)): ∀m,m<=l.length->(Lib.compactUpTo l.toArray m).Pairwise (· < ·)/\ ∀x,x∈Lib.compactUpTo l.toArray m↔x∈l.take m
 | 0,_=>by simp [Lib.compactUpTo]
 | m+1,hm=>by
   obtain⟨h1,h2⟩:=comp_specI l hs m (by omega)
   have ey:l.toArray[m]! =l[m]'(by omega):=by rw [getElem!_pos _ m (by simp; omega)]; rfl
   have et:l.take (m+1)=l.take m++[l[m]'(by omega)]:=by rw [List.take_add_one,List.getElem?_eq_getElem (by omega)]; rfl
   have hle: ∀k (hk:k<m),l[k]'(by omega)<=l[m]'(by omega):=fun k hk=>List.pairwise_iff_getElem.1 hs k m (by omega) (by omega) hk
   rw [Lib.compactUpTo_succ,ey]
   by_cases hk:Lib.keeps l.toArray m=true
   ·rw [if_pos hk]
    refine⟨List.pairwise_append.2 ⟨h1,List.pairwise_singleton ..,fun x hx y hy=> ?_⟩,fun x=>by rw [et,List.mem_append,List.mem_append,h2]⟩
    rw [List.mem_singleton.1 hy]
    rw [h2,List.mem_take_iff_getElem] at hx
    obtain⟨k,hk2,rfl⟩:=hx
    have hkm:k<m:=by omega
    unfold Lib.keeps at hk
    rw [decide_eq_true_eq] at hk
    rcases hk with hk | hk
    ·omega
    ·rw [ey,getElem!_pos _ (m-1) (by simp; omega)] at hk
     have hk:l[m]'(by omega)≠l[m-1]'(by omega):=hk
     have e1:=hle (m-1) (by omega)
     have e2:l[k]'(by omega)<=l[m-1]'(by omega):=by
      by_cases ek:k=m-1
      ·subst ek; exact Int.le_refl _
      ·exact List.pairwise_iff_getElem.1 hs k (m-1) (by omega) (by omega) (by omega)
     omega
   ·rw [if_neg hk,List.append_nil]
    refine⟨h1,fun x=> ?_⟩
    rw [h2,et,List.mem_append,List.mem_singleton]
    refine⟨.inl,fun h=>h.elim id fun h=> ?_⟩
    unfold Lib.keeps at hk
    rw [decide_eq_true_eq,not_or,Classical.not_not,ey,getElem!_pos _ (m-1) (by simp; omega)] at hk
    rw [h,hk.2]
    exact List.mem_take_iff_getElem.2 ⟨m-1,by omega,rfl⟩
theorem compact_sort {c:ChD} {l:List Int} {l':List Nat} (h: ∀x,x∈l↔x∈zL l') (hb: ∀k∈l',k<c.states.length):Lib.compact (zeK l)=zL (riseL c l'):=by
 have hs:(zeK l).Pairwise (· <= ·):=(List.pairwise_mergeSort (le:=fun x y:Int=>decide (x<=y)) (fun a b c=>by simp; omega) (fun a b=>by simp; omega) l).imp fun h=>by simpa using h
 obtain⟨h1,h2⟩:=comp_specI (zeK l) hs _ (Nat.le_refl _)
 refine rise_eq h1 zL_rise fun x=> ?_
 show x∈Lib.compactUpTo _ _↔_
 rw [h2,List.take_length]
 unfold zeK
 rw [(List.mergeSort_perm ..).mem_iff,h]
 constructor
 ·intro hx
  obtain⟨k,hk,rfl⟩:=List.mem_map.1 hx
  exact List.mem_map.2 ⟨k,rise_mem.2 ⟨hb k hk,hk⟩,rfl⟩
 ·intro hx
  obtain⟨k,hk,rfl⟩:=List.mem_map.1 hx
  exact List.mem_map.2 ⟨k,(rise_mem.1 hk).2,rfl⟩
end
section
theorem LeaveE_con (env:Env) (a1 a8:Addr) (he:ChEnv env a1 a8) (c:ChD) (h:Full c) (hs:Small c) (act:List Int) (hl:act.length<=1000000) (n:Int) (hb:lgB c act=false):Con Tryz.prog env 65 [zai c, .seq 1 (act.map intAV),I n] (.tuple [nilS,errV (-1) (errV (ziO c act).2 (sentV a1))]):=by
 have f0:=zjE env a1 a8 he c h hs act hl
 have f1:=zoZ env [101,110,116,101,114,46,76,101,97,118,101] (ziO c act).2 (sentV a1)
 unfold chkE at f0
 rw [hb] at f0
 simp only [Bool.false_eq_true,if_false] at f0
 unfold zai at f0 |-
 refine zaa Tryz.func65 rfl Tryz.call65 (by rw [Tryz.ntmps65]; simp) ?_
 rw [Tryz.ntmps65,Tryz.results65]
 repeat (first | refine st0 ?_ | refine cC0 f0 ?_ | refine cC0 f1 ?_)
 exact aR0
theorem LeaveN_con (env:Env) (a1 a8:Addr) (he:ChEnv env a1 a8) (c:ChD) (h:Full c) (hs:Small c) (act:List Int) (hl:act.length<=1000000) (n:Int) (hb:lgB c act=true) (hn:isT c n=false):Con Tryz.prog env 65 [zai c, .seq 1 (act.map intAV),I n] (.tuple [nilS,errV (-1) (sentV a1)]):=by
 have f0:=zjE env a1 a8 he c h hs act hl
 have f1:=zmX env c hs n hn
 have f2:=zg9 env a1 a8 he [101,110,116,101,114,46,76,101,97,118,101]
 unfold chkE at f0
 rw [hb] at f0
 simp only [if_true] at f0
 unfold zai at f0 f1 |-
 refine zaa Tryz.func65 rfl Tryz.call65 (by rw [Tryz.ntmps65]; simp) ?_
 rw [Tryz.ntmps65,Tryz.results65]
 repeat (first | refine st0 ?_ | refine cC0 f0 ?_ | refine cC0 f1 ?_ | refine cC0 f2 ?_)
 exact aR0
theorem rUnder30_con (env:Env) (c:ChD) (hc:Right c) (act:List Int) (hl:act.length<=1000000) (hz: ∀x∈act,0<=x) (i:Int):Con Tryz.prog env 54 [.agg (chAV c), .seq 1 (act.map intAV),I i] (.own 3 1 ((undR c act i).map intAV)):=by
 have f2:=zlZ env c hc act hl hz
 have hsl:=zin hc act
 rw [<-ze8] at f2
 unfold undR
 have hsl:(zL (sortL c act)).length<=32:=by rw [zdQ]; exact hsl
 generalize zL (sortL c act)=L at*
 unfold chAV at f2
 refine zaa Tryz.func54 rfl Tryz.call54 (by rw [Tryz.ntmps54]; simp) ?_
 rw [Tryz.ntmps54,Tryz.results54]
 have F:=chAV.eq_1
 repeat (first | refine st ?_ | refine cC f2 ?_)
 refine zab (D:=Nat) (fun j vs=>[(2,I i),(3, .loc 3 (vs 3) 0 0),(7, .row 10 (vs 10)),(8, .row 13 (vs 13)),(9,I j)]) (fun j _=>[(3,⟨5,[chAV c],26,false⟩),(10,⟨1,(zgE c L i j).map intAV,3,true⟩),(13,⟨1,L.map intAV,3,true⟩)]) (fun j _ esc=>j<=L.length/\esc 10=false) (fun j=>L.length-j) 0 ?_ ?_ ?_ ?_
 ·exact⟨Nat.zero_le _,rfl⟩
 ·(simp only [go_sem,F])
  try rfl
 ·have F:=chAV.eq_1
  (simp only [go_sem,F])
  try rfl
 rintro j ws esc ⟨hj,e0⟩
 by_cases hlt:j<L.length
 ·obtain⟨x,hx⟩: ∃x,L[j]? =some x:=⟨L[j],List.getElem?_eq_getElem hlt⟩
  have q1:=nlt hlt
  have q2:=zac hlt (by omega)
  have f3:=zdh env c hc i x
  unfold chAV at f3
  have hil:=zmV c L i j
  have hf:Fits ((zgE c L i j).length+1) 8:=zah (by omega) (by omega)
  have hn:=zlH (c:=c) (i:=i) hx
  cases hb:aboveB c i x with
  | true=>
    rw [hb] at f3
    rw [hb,if_pos rfl] at hn
    have F:=ai chAV.eq_1<|ai q1<|ai q2<|ai hx<|ai hf<|e0
    repeat (first | refine st ?_ | refine cC f3 ?_)
    refine⟨j+1,⟨hlt,by simp only [go_sem,e0]⟩, ?_, ?_,by omega⟩
    ·(simp only [go_sem,F])
    ·have F:=ai chAV.eq_1<|hn
     (simp only [go_sem,List.map_append,F])
  | false=>
    rw [hb] at f3
    rw [hb,if_neg Bool.false_ne_true] at hn
    have F:=ai chAV.eq_1<|ai q1<|ai q2<|ai hx<|ai hf<|e0
    repeat (first | refine st ?_ | refine cC f3 ?_)
    refine⟨j+1,⟨hlt,by simp only [go_sem,e0]⟩, ?_, ?_,by omega⟩
    ·(simp only [go_sem,F])
    ·have F:=ai chAV.eq_1<|hn
     (simp only [go_sem,List.map_append,F])
 ·obtain rfl:j=L.length:=by omega
  have q1: ¬(L.length:Int)< (L.length:Int):=by omega
  have hall:zgE c L i L.length=L.filter (aboveB c i):=by unfold zgE; rw [List.take_length]
  rw [hall]
  have F:=ai q1<|e0
  repeat refine st ?_
  exact aR
def revTo (l:List Int) (m:Nat):List Int:=(l.drop (l.length-m)).reverse
theorem revTo_succ {l:List Int} {m:Nat} {x:Int} (hm:m<l.length) (h:l[l.length-m-1]? =some x):revTo l (m+1)=revTo l m++[x]:=by
 unfold revTo
 rw [show l.length-(m+1)=l.length-m-1 by omega]
 obtain⟨h1,rfl⟩:=List.getElem?_eq_some_iff.1 h
 rw [List.drop_eq_getElem_cons h1,List.reverse_cons]
 congr 3
 omega
theorem rTurned30_con (env:Env) (l:List Int) (hl:l.length<=1000000):Con Tryz.prog env 123 [.seq 1 (l.map intAV)] (.own 3 1 (l.reverse.map intAV)):=by
 have g0:IntKind.i64.wrap ((l.length:Int)-1)=(l.length:Int)-1-((0:Nat):Int):=by rw [zbU (by omega) (by omega)]; omega
 refine zaa Tryz.func123 rfl Tryz.call123 (by rw [Tryz.ntmps123]; simp) ?_
 rw [Tryz.ntmps123,Tryz.results123]
 have F:=g0
 repeat refine st ?_
 refine zab (D:=Nat) (fun m vs=>[(0, .seq 1 (l.map intAV)),(3, .row 5 (vs 5)),(4,I ((l.length:Int)-1-(m:Int)))]) (fun m _=>[(5,⟨1,(revTo l m).map intAV,3,true⟩)]) (fun m _ esc=>m<=l.length/\esc 5=false) (fun m=>l.length-m) 0 ?_ ?_ ?_ ?_
 ·exact⟨Nat.zero_le _,rfl⟩
 ·(simp only [go_sem,F])
 ·have:revTo l 0=[]:=by unfold revTo; simp
  rw [this]
  (simp only [go_sem,F])
  try rfl
 rintro m ws esc ⟨hm,e0⟩
 have hrl:(revTo l m).length=m:=by unfold revTo; rw [List.length_reverse,List.length_drop]; omega
 by_cases hlt:m<l.length
 ·obtain⟨x,hx⟩: ∃x,l[l.length-m-1]? =some x:=⟨l[l.length-m-1]'(by omega),List.getElem?_eq_getElem _⟩
  have q0:(l.length:Int)-1-(m:Int)=((l.length-m-1:Nat):Int):=by omega
  have q1:(0:Int)<=((l.length-m-1:Nat):Int):=by omega
  have q2:IntKind.i64.wrap (((l.length-m-1:Nat):Int)-1)=(l.length:Int)-1-((m+1:Nat):Int):=by rw [zbU (by omega) (by omega)]; omega
  have q3:((l.length-m-1:Nat):Int)< (l.length:Int):=by omega
  have hf:Fits ((revTo l m).length+1) 8:=⟨by omega,by omega⟩
  have hn:=revTo_succ hlt hx
  rw [q0]
  have F:=ai hx<|ai q1<|ai q2<|ai q3<|ai hf<|e0
  repeat refine st ?_
  refine⟨m+1,⟨hlt,by simp only [go_sem,e0]⟩, ?_, ?_,by omega⟩
  ·(simp only [go_sem,F])
  ·have F:=hn
   (simp only [go_sem,List.map_append,F])
 ·obtain rfl:m=l.length:=by omega
  have q1: ¬(0:Int)<=(l.length:Int)-1-(l.length:Int):=by omega
  have hall:revTo l l.length=l.reverse:=by unfold revTo; simp
  rw [hall]
  have F:=ai q1<|e0
  repeat refine st ?_
  exact aR
theorem rLeave30_con (env:Env) (c:ChD) (h:Full c) (act:List Int) (hl:act.length<=1000000) (hz: ∀x∈act,0<=x) (k:Nat) (t:TrD) (ht:c.trans[k]? =some t):Con Tryz.prog env 70 [.agg (chAV c), .seq 1 (act.map intAV), .agg (trAV t)] (.own 3 1 ((leaveR c act t).map intAV)):=by
 have f1:=zhN env c h.toRight t (h.src ht).1
 have f2:=rUnder30_con env c h.toRight act hl hz (domE c t.src t.target)
 have hul:(undR c act (domE c t.src t.target)).length<=32:=Nat.le_trans (List.length_filter_le ..) (by rw [zdQ]; exact zin h.toRight act)
 have f3:=rTurned30_con env (undR c act (domE c t.src t.target)) (by omega)
 unfold leaveR
 unfold trAV at f1
 unfold chAV at f1 f2
 by_cases h0:t.target<0
 ·rw [if_pos h0]
  refine zaj Tryz.func70 rfl Tryz.call70 (by rw [Tryz.ntmps70]; simp) ?_
  rw [Tryz.ntmps70,Tryz.results70]
  have F:=ai trAV.eq_1<|ai chAV.eq_1<|h0
  repeat (first | refine st ?_ | refine cC f1 ?_ | refine cC f2 ?_ | refine cC f3 ?_)
  (refine zak ?_; refine⟨_,(by show (zaz _ _ _).run _=some _; simp only [go_sem,F]; rfl), ?_⟩)
  exact RStr.own_nil _ _ (by decide)
 ·rw [if_neg h0]
  refine zaa Tryz.func70 rfl Tryz.call70 (by rw [Tryz.ntmps70]; simp) ?_
  rw [Tryz.ntmps70,Tryz.results70]
  have F:=ai trAV.eq_1<|ai chAV.eq_1<|h0
  repeat (first | refine st ?_ | refine cC f1 ?_ | refine cC f2 ?_ | refine cC f3 ?_)
  exact aR
end
section
theorem above_no {c:ChD} (h:Right c) {d:Int} :aboveB c d d=false:=by
 cases hh:aboveB c d d with
 | false=>rfl
 | true=>
   unfold aboveB at hh
   have:=(zeG h 40 d d (List.contains_iff_mem.1 hh)).2
   omega
theorem kid_realZ {c:ChD} {k:Int} {s:StD} (hs:at_ c k=some s) (hm:zat s=false) (hz:inZ c k=true):k∈kidZ c (parZ c k):=by
 obtain⟨j,s',rfl,hs',ha⟩:=zb0 hz
 rw [hs] at ha
 cases ha
 exact List.mem_map.2 ⟨j,zqU hs' (zcx hs').symm hm,rfl⟩
theorem many_exact {l:List Int} {ks:List Nat} (hn:ks.Nodup) {k:Int} (hk:k∈zL ks) (h: ∀x∈zL ks,x∈l↔x=k):manyI l ks=1:=by
 obtain⟨j,hj,rfl⟩:=List.mem_map.1 hk
 unfold manyI
 rw [filter_one hn hj fun x hx=> ?_]
 ·rfl
 ·rw [List.contains_iff_mem,h _ (List.mem_map.2 ⟨x,hx,rfl⟩)]
  omega
theorem move_legal {c:ChD} (h:Full c) {act:List Int} (hg:Lg c act) {d:Int} {P:List Int} (hu:Uni c d P) (hd:d= -1\/(d∈act/\zaL c d=true)) {O:List Nat} (hO:O.Pairwise (· < ·))
 (hm: ∀x,x∈zL O↔(x∈act/\aboveB c d x=false)\/Gr c P x):lgB c (zL O)=true/\ ∀x,aboveB c d x=false->(x∈zL O↔x∈act):=by
 have hr:=h.toRight
 have gb: ∀x,Gr c P x->aboveB c d x=true/\(parZ c x=d\/Gr c P (parZ c x))/\ ∃s,at_ c x=some s/\zat s=false:=fun x g=>by
  induction g with
  | base hx=>exact⟨hu.bel _ hx,(hu.up _ hx).imp id .base,hu.real _ hx⟩
  | ini g hp hn h0 ih=>
    have hk:=zeq h hp h0
    obtain⟨k1,k2,_⟩:=zcz hr hk
    refine⟨(zbg hr k1).2 (.inr (by rw [k2]; exact ih.1)), .inr (by rw [k2]; exact g), ?_⟩
    obtain⟨j,hj,e⟩:=List.mem_map.1 hk
    obtain⟨s,e1,_,e2,_⟩:=zp1 hj
    exact⟨s,by rw [<-e,zbp]; exact e1,e2⟩
  | par g hp hk ih=>
    obtain⟨k1,k2,_⟩:=zcz hr hk
    refine⟨(zbg hr k1).2 (.inr (by rw [k2]; exact ih.1)), .inr (by rw [k2]; exact g), ?_⟩
    obtain⟨j,hj,e⟩:=List.mem_map.1 hk
    obtain⟨s,e1,_,e2,_⟩:=zp1 hj
    exact⟨s,by rw [<-e,zbp]; exact e1,e2⟩
 have hout: ∀x,aboveB c d x=false->(x∈zL O↔x∈act):=fun x hx=>by
  rw [hm]
  refine⟨fun hh=>hh.elim (fun a=>a.1) fun g=> ?_,fun hh=> .inl ⟨hh,hx⟩⟩
  rw [(gb x g).1] at hx
  cases hx
 have hin: ∀x,aboveB c d x=true->(x∈zL O↔Gr c P x):=fun x hx=>by
  rw [hm]
  refine⟨fun hh=>hh.elim (fun a=> ?_) id, .inr⟩
  rw [hx] at a
  cases a.2
 have two: ∀x,zaL c x=true\/x= -1-> ∀k1 k2,Gr c P k1->Gr c P k2->parZ c k1=x->parZ c k2=x->k1=k2:=fun x hx k1 k2 g1 g2 e1 e2=>by
  have inP: ∀k,Gr c P k->parZ c k=x->k∈P\/(k=iniZ c x/\(∀k∈kidZ c x,k∉P)/\zaL c x=true):=fun k g e=>by
   rcases g.real h with a | ⟨a1,a2,a3⟩
   ·exact .inl a
   ·rw [e] at a1 a2 a3
    rcases hx with hx | hx
    ·exact .inr ⟨(a3 hx).1,(a3 hx).2,hx⟩
    ·rw [hx] at a2
     have:=(zag.1 (zaD (gb _ a2).1)).1
     omega
  have kz: ∀k∈P,parZ c k=x->k∈kidZ c x:=fun k hk e=>by
   obtain⟨s,q1,q2⟩:=hu.real k hk
   rw [<-e]
   exact kid_realZ q1 q2 (zaD (hu.bel k hk))
  rcases inP k1 g1 e1 with a | ⟨a1,a2,_⟩
  ·rcases inP k2 g2 e2 with b | ⟨b1,b2,_⟩
   ·exact hu.one x hx k1 a k2 b e1 e2
   ·exact absurd a (b2 k1 (kz k1 a e1))
  ·rcases inP k2 g2 e2 with b | ⟨b1,b2,_⟩
   ·exact absurd b (a2 k2 (kz k2 b e2))
   ·rw [a1,b1]
 have dkid:manyI (zL O) (kidsL c d true)=1:=by
  obtain⟨k,hk,e⟩:=hu.has
  obtain⟨s,q1,q2⟩:=hu.real k hk
  have hkz:=kid_realZ q1 q2 (zaD (hu.bel k hk))
  rw [e] at hkz
  refine many_exact (zcg c d true) hkz fun x hx=> ?_
  obtain⟨x1,x2,_⟩:=zcz hr hx
  rw [hin x ((zbg hr x1).2 (.inl x2))]
  refine⟨fun g=>two d ?_ x k g (.base hk) x2 e,fun e=>by rw [e]; exact .base hk⟩
  rcases hd with e | e
  ·exact .inr e
  ·exact .inl e.2
 have hb: ∀k∈O,k<c.states.length:=fun k hk=>by
  rcases (hm k).1 (List.mem_map.2 ⟨k,hk,rfl⟩) with a | a
  ·obtain⟨_,_,z,_⟩:=hg.of a.1
   exact zaM.1 z
  ·exact zaM.1 (zaD (gb _ a).1)
 refine⟨lg_of hO (fun k hk=> ?_) ?_,hout⟩
 ·have hkO:(k:Int)∈zL O:=List.mem_map.2 ⟨k,hk,rfl⟩
  have key: ∃s,at_ c (k:Int)=some s/\zat s=false/\(s.parent<0\/s.parent∈zL O)/\(s.kind=1->kidsL c k true≠[]->manyI (zL O) (kidsL c k true)=1)/\(s.kind=2->manyI (zL O) (kidsL c k true)=(kidsL c k true).length):=by
   rcases (hm k).1 hkO with⟨ka,kn⟩ | g
   ·obtain⟨s,hs,hz,hmy,hp,f1,f2⟩:=hg.of ka
    have hps:parZ c (k:Int)=s.parent:=by unfold parZ; rw [hs]
    rw [hps] at hp
    refine⟨s,hs,hmy, ?_, ?_⟩
    ·rcases hp with hp | hp
     ·exact .inl hp
     ·refine .inr ((hout _ ?_).2 hp)
      cases hh:aboveB c d s.parent with
      | false=>rfl
      | true=>
        rw [(zbg hr hz).2 (.inr (by rw [hps]; exact hh))] at kn
        cases kn
    ·by_cases e:d=k
     ·rw [<-e]
      refine⟨fun _ _=>dkid,fun e2=> ?_⟩
      have hpl:=(hd.resolve_left (by omega)).2
      rw [e,zcF hs,e2] at hpl
      cases hpl
     ·have same:manyI (zL O) (kidsL c k true)=manyI act (kidsL c k true):=by
       unfold manyI
       congr 1
       apply List.filter_congr
       intro j hj
       have hjz:(j:Int)∈kidZ c k:=List.mem_map.2 ⟨j,hj,rfl⟩
       obtain⟨j1,j2,_⟩:=zcz hr hjz
       rw [Bool.eq_iff_iff,List.contains_iff_mem,List.contains_iff_mem]
       refine hout _ ?_
       cases hh:aboveB c d (j:Int) with
       | false=>rfl
       | true=>
         rcases (zbg hr j1).1 hh with q | q
         ·rw [j2] at q; exact absurd q.symm e
         ·rw [j2,kn] at q; cases q
      rw [same]
      exact⟨f1,f2⟩
   ·obtain⟨g1,g2,s,hs,hmy⟩:=gb k g
    have hz:=zaD g1
    have hps:parZ c (k:Int)=s.parent:=by unfold parZ; rw [hs]
    have below: ∀j∈kidZ c (k:Int),(j∈zL O↔Gr c P j):=fun j hj=>by
     obtain⟨j1,j2,_⟩:=zcz hr hj
     exact hin j ((zbg hr j1).2 (.inr (by rw [j2]; exact g1)))
    refine⟨s,hs,hmy, ?_,fun e hne=> ?_,fun e=> ?_⟩
    ·rw [<-hps]
     rcases g2 with q | q
     ·rw [q]
      rcases hd with e | e
      ·exact .inl (by omega)
      ·exact .inr ((hout d (above_no hr)).2 e.1)
     ·exact .inr ((hm _).2 (.inr q))
    ·have hpl:zaL c (k:Int)=true:=by rw [zcF hs,e]; rfl
     have hini:0<=iniZ c (k:Int)/\iniZ c (k:Int)∈kidZ c (k:Int):=by
      rcases zlD h hs with⟨_,e2 | e2⟩ | ⟨e2,_⟩ | ⟨e2,_⟩ | ⟨e2 | e2,_⟩
      ·exact absurd e2 hne
      ·exact e2
      all_goals omega
     by_cases hex: ∃j∈kidZ c (k:Int),j∈P
     ·obtain⟨j,hj,hjP⟩:=hex
      refine many_exact (zcg c k true) hj fun x hx=> ?_
      rw [below x hx]
      exact⟨fun gx=>two k (.inl hpl) x j gx (.base hjP) (zcz hr hx).2.1 (zcz hr hj).2.1,fun e=>by rw [e]; exact .base hjP⟩
     ·have hno: ∀j∈kidZ c (k:Int),j∉P:=fun j hj hjP=>hex ⟨j,hj,hjP⟩
      refine many_exact (zcg c k true) hini.2 fun x hx=> ?_
      rw [below x hx]
      have gi:Gr c P (iniZ c (k:Int)):= .ini g hpl hno hini.1
      exact⟨fun gx=>two k (.inl hpl) x _ gx gi (zcz hr hx).2.1 (zcz hr hini.2).2.1,fun e=>by rw [e]; exact gi⟩
    ·rw [zfh]
     intro j hj
     exact(below j hj).2 (.par g (by rw [zcF hs,e]; rfl) hj)
  obtain⟨s,hs,k1,k2,k3,k4⟩:=key
  have hfit:fitI c (zL O) (k:Int)=fitB c (zL O) k s:=by unfold fitI; rw [hs]; rfl
  rw [hfit]
  unfold fitB
  rw [k1,Bool.and_eq_true,Bool.and_eq_true]
  refine⟨⟨rfl, ?_⟩, ?_⟩
  ·rw [Bool.or_eq_true,decide_eq_true_eq]
   exact k2.imp id fun q=>List.contains_iff_mem.2 q
  ·split
   ·rename_i e; simpa using k3 e.1 e.2
   ·split
    ·rename_i e; simpa using k4 e
    ·rfl
 ·rcases hd with e | e
  ·rw [e] at dkid; exact dkid
  ·rw [<-hg.top]
   unfold manyI
   congr 1
   apply List.filter_congr
   intro j hj
   have hjz:(j:Int)∈kidZ c (-1):=List.mem_map.2 ⟨j,hj,rfl⟩
   obtain⟨j1,j2,_⟩:=zcz hr hjz
   have hd0:=(hg.of e.1)
   obtain⟨_,_,dz,_⟩:=hd0
   rw [Bool.eq_iff_iff,List.contains_iff_mem,List.contains_iff_mem]
   refine hout _ ?_
   cases hh:aboveB c d (j:Int) with
   | false=>rfl
   | true=>
     rcases (zbg hr j1).1 hh with q | q
     ·rw [j2] at q; have:=(zag.1 dz).1; omega
     ·rw [j2] at q; have:=(zag.1 (zaD q)).1; omega
theorem back_of {c:ChD} (h:Full c) {act gone:List Int} (hg:Lg c act) {mem:List MemD} (hmem:zc3 c mem=true) (hgo: ∀x∈gone,x∈act) {k:Nat} {s:StD} (hs:c.states[k]? =some s) (hmy:zat s=true) (hp:s.parent∈gone) {x:Int}
 (hx:x=s.parent\/(s.kind=5/\x∈underL c act s.parent)\/(x∈kidZ c s.parent/\x∈act)):Gr c (upsL c (leadL c k (remL c act gone mem)) (domE c s.parent k)) x:=by
 have hr:=h.toRight
 obtain⟨q1,q2,q3,q4,q5⟩:=zqw h hs hmy
 have hpa:=hgo _ hp
 have hkz:inZ c (k:Int)=true:=zaM.2 (List.getElem?_eq_some_iff.1 hs).1
 have hat:at_ c (k:Int)=some s:=by rw [zbp]; exact hs
 obtain⟨d1,d2,_⟩:=zqW h q4 hkz
 generalize domE c s.parent k=d at*
 have hdp:aboveB c d s.parent=true:=by unfold aboveB; exact List.contains_iff_mem.2 d2
 obtain⟨hs0,_⟩:=zkf hmem
 obtain⟨r1,r2⟩:=rem_of (c:=c) (act:=act) (gone:=gone) hs0
 have hin:((k:Int),newV c act s.parent k)∈remL c act gone mem:=(r2 _).2 (.inl ⟨s.parent,hp,q1,k,memL_iff.2 ⟨s,hs,q4,rfl,hmy⟩,rfl⟩)
 have hlead:leadL c k (remL c act gone mem)=newV c act s.parent k:=by
  unfold leadL
  rw [hat]
  simp only
  rw [if_pos hmy]
  have ho:=ofM_mem r1 hin
  unfold ofM at ho
  cases hf:(remL c act gone mem).find? (fun m=>m.1==(k:Int)) with
  | some m=>rw [hf] at ho; exact ho
  | none=>
    rw [List.find?_eq_none] at hf
    exact absurd (beq_self_eq_true (k:Int)) (hf _ hin)
 rw [hlead]
 have hv:newV c act s.parent k=if s.kind=5 then innerL c (underL c act s.parent) else lastKid c act s.parent:=by
  unfold newV
  rw [hs]
 obtain⟨sp,hsp,_,_,_,f1,_⟩:=hg.of hpa
 have hkp:sp.kind=1:=by rw [zcF hsp] at q1; simpa using q1
 obtain⟨t,t1,t2,t3,t4⟩:=kid_same (f1 hkp q3)
 obtain⟨tz,tp,_⟩:=zcz hr t1
 refine .base ((zdR.2 x).2 ?_)
 have hp0:=(zag.1 q4).1
 have htu:t∈underL c act s.parent:=List.mem_filter.2 ⟨t2,(zbg hr tz).2 (.inl tp)⟩
 by_cases e5:s.kind=5
 ·rw [hv,if_pos e5]
  have has: ∀y,y∈underL c act s.parent->y∈innerL c (underL c act s.parent)\/ ∃i∈innerL c (underL c act s.parent),y∈upL c i/\0<=y/\aboveB c d y=true:=fun y hy=>by
   have hab:aboveB c s.parent y=true:=(List.mem_filter.1 hy).2
   have hyz:=zag.1 (zaD hab)
   obtain⟨i,hi,e | e⟩:=inner_has hr s.parent (c.states.length+1) y (by omega) hy
   ·exact .inl (by rw [<-e]; exact hi)
   ·exact .inr ⟨i,hi,e,hyz.1,zkH hr hdp hab⟩
  rcases hx with rfl | ⟨_,hx⟩ | ⟨hx,hxa⟩
  ·obtain⟨i,hi,_⟩:=inner_has hr s.parent (c.states.length+1) t (by have:=zag.1 tz; omega) htu
   have hiu:i∈underL c act s.parent:=by
    unfold innerL zeK at hi
    exact(List.mem_filter.1 ((List.mergeSort_perm ..).mem_iff.1 hi)).1
   have hia:aboveB c s.parent i=true:=(List.mem_filter.1 hiu).2
   exact .inr ⟨i,hi,List.contains_iff_mem.1 hia,hp0,hdp⟩
  ·exact has x hx
  ·obtain⟨xz,xp,_⟩:=zcz hr hx
   exact has x (List.mem_filter.2 ⟨hxa,(zbg hr xz).2 (.inl xp)⟩)
 ·rw [hv,if_neg e5,t3]
  rcases hx with rfl | ⟨e,_⟩ | ⟨hx,hxa⟩
  ·exact .inr ⟨t,by simp,(zbr hr tz).2 (.inl tp.symm),hp0,hdp⟩
  ·exact absurd e e5
  ·left
   have:x∈(kidZ c s.parent).filter fun k=>act.contains k:=List.mem_filter.2 ⟨hx,List.contains_iff_mem.2 hxa⟩
   rw [t4] at this
   exact this
end
section
theorem leave_nat {c:ChD} (hc:Right c) {act:List Int} {t:TrD} :(∀x∈leaveR c act t,0<=x)/\(leaveR c act t).length<=32:=by
 unfold leaveR
 split
 ·exact⟨fun x hx=>(by cases hx),by simp⟩
 ·refine⟨fun x hx=> ?_, ?_⟩
  ·have hx:=List.mem_reverse.1 hx
   unfold undR at hx
   have:=(List.mem_filter.1 hx).1
   obtain⟨k,_,rfl⟩:=List.mem_map.1 this
   omega
  ·rw [List.length_reverse]
   exact Nat.le_trans (List.length_filter_le ..) (by rw [zdQ]; exact zin hc act)
end
section
def posM:List MemD->Int->Nat
 | [],_=>0
 | x::r,h=>if x.1<h then posM r h+1 else 0
theorem zr1 (h:Int): ∀l:List MemD,posM l h<=l.length
 | []=>Nat.le_refl _
 | x::r=>by
   unfold posM
   split
   ·have:=zr1 h r
    simp only [List.length_cons]
    omega
   ·exact Nat.zero_le _
theorem zsk {h:Int} : ∀ {l:List MemD},Srt l-> ∀ {j:Nat} {y:MemD},l[j]? =some y->(j<posM l h↔y.1<h)
 | [],_,j,y,hy=>by simp at hy
 | x::r,hs,j,y,hy=>by
   obtain⟨h1,h2⟩:=List.pairwise_cons.1 hs
   unfold posM
   by_cases hx:x.1<h
   ·rw [if_pos hx]
    cases j with
    | zero=>
      simp only [List.getElem?_cons_zero,Option.some.injEq] at hy
      subst hy
      exact⟨fun _=>hx,fun _=>by omega⟩
    | succ j=>
      rw [List.getElem?_cons_succ] at hy
      have:=zsk (h:=h) h2 hy
      omega
   ·rw [if_neg hx]
    refine⟨fun h=>by omega,fun hyl=> ?_⟩
    cases j with
    | zero=>
      simp only [List.getElem?_cons_zero,Option.some.injEq] at hy
      subst hy
      exact absurd hyl hx
    | succ j=>
      rw [List.getElem?_cons_succ] at hy
      have:=h1 y (List.mem_of_getElem? hy)
      omega
def isM (l:List MemD) (h:Int):Bool:=match l[posM l h]? with
 | some y=>y.1==h
 | none=>false
theorem zr6 {m:MemD} : ∀ {l:List MemD},isM l m.1=true->putM l m=l.set (posM l m.1) m
 | [],h=>by simp [isM] at h
 | x::r,h=>by
   unfold putM
   unfold isM at h
   unfold posM at h |-
   by_cases hx:x.1<m.1
   ·rw [if_pos hx] at h |-
    rw [if_pos hx,List.set_cons_succ,zr6 (by unfold isM; rw [List.getElem?_cons_succ] at h; exact h)]
   ·rw [if_neg hx] at h |-
    rw [if_neg hx]
    have h:(x.1==m.1)=true:=h
    rw [if_pos (by simpa using h)]
    rfl
theorem zr7 {m:MemD} : ∀ {l:List MemD},isM l m.1=false->putM l m=l.take (posM l m.1)++m::l.drop (posM l m.1)
 | [],h=>by simp [putM,posM]
 | x::r,h=>by
   unfold putM
   unfold isM at h
   unfold posM at h |-
   by_cases hx:x.1<m.1
   ·rw [if_pos hx] at h |-
    rw [if_pos hx,zr7 (by unfold isM; rw [List.getElem?_cons_succ] at h; exact h)]
    rfl
   ·rw [if_neg hx] at h |-
    rw [if_neg hx]
    have h:(x.1==m.1)=false:=h
    rw [if_neg (by simpa using h)]
    rfl
theorem zsK {l:List MemD} {h:Int} (hi:isM l h=true):posM l h<l.length:=by
 unfold isM at hi
 cases hg:l[posM l h]? with
 | none=>rw [hg] at hi; cases hi
 | some y=>exact(List.getElem?_eq_some_iff.1 hg).1
end
section
theorem zse (env:Env) (mem:List MemD) (hl:mem.length<=4096) (hm: ∀m∈mem,m.2.length<=4096):Con Tryz.prog env 157 [memsAV mem] (.own 133 2 (mem.map mmAV)):=by
 refine zaa Tryz.func157 rfl Tryz.call157 (by rw [Tryz.ntmps157]; simp) ?_
 rw [Tryz.ntmps157,Tryz.results157]
 repeat refine st0 ?_
 refine zbo 3 3 133 2 ?_
 refine zab (D:=Nat) (fun j vs=>[(3, .row 3 (vs 3)),(6,memsAV mem),(7,I mem.length),(8,I j)]) (fun j _=>[(3,⟨2,(mem.take j).map mmAV,133,true⟩)]) (fun j _ esc=>j<=mem.length/\esc 3=false) (fun j=>mem.length-j) 0 ?_ ?_ ?_ ?_
 ·exact⟨Nat.zero_le _,rfl⟩
 ·(simp only [go_sem])
  try rfl
 ·(simp only [go_sem])
 rintro j ws esc ⟨hj,e0⟩
 by_cases hlt:j<mem.length
 ·obtain⟨a,ha⟩: ∃a,mem[j]? =some a:=⟨mem[j],List.getElem?_eq_getElem hlt⟩
  have g1:=nlt hlt
  have g2:=zac hlt (by omega)
  have f0:=ze0 env (a.2.map intAV) (by rw [List.length_map]; exact hm a (List.mem_of_getElem? ha))
  have htl:(mem.take j).length=j:=by rw [List.length_take]; omega
  have hf:Fits (j+1) 32:=zah (by omega) (by omega)
  have htk:mem.take (j+1)=mem.take j++[a]:=by rw [List.take_add_one,ha]; rfl
  have F:=ai mmAV.eq_1<|ai g1<|ai g2<|ai ha<|ai htl<|ai hf<|e0
  repeat (first | refine st ?_ | refine cC f0 ?_)
  refine⟨j+1,⟨hlt,by simp only [go_sem,e0]⟩, ?_, ?_,by omega⟩
  ·(simp only [go_sem,F])
  ·have F:=ai mmAV.eq_1<|htk
   (simp only [go_sem,List.map_append,F])
 ·obtain rfl:j=mem.length:=by omega
  have g1: ¬(mem.length:Int)< (mem.length:Int):=by omega
  have hta:mem.take mem.length=mem:=List.take_length
  have F:=ai g1<|ai hta<|e0
  repeat refine st ?_
  exact aR
theorem zr5 (env:Env) (c:ChD) (hc:Right c) (L:List Int) (hl:L.length<=4000) (d:Int):Con Tryz.prog env 159 [zai c, .seq 1 (L.map intAV),I d] (.own 3 1 ((underL c L d).map intAV)):=by
 have f1:=zbH env c
 unfold zai zal at f1
 unfold zai
 refine zaa Tryz.func159 rfl Tryz.call159 (by rw [Tryz.ntmps159]; simp) ?_
 rw [Tryz.ntmps159,Tryz.results159]
 repeat refine st0 ?_
 refine zbo 7 7 3 1 ?_
 refine zab (D:=Nat) (fun j vs=>[(0, .ref 9 [tabCells c] 0 0),(2,I d),(7, .row 7 (vs 7)),(10, .seq 1 (L.map intAV)),(11,I L.length),(12,I j)]) (fun j _=>[(7,⟨1,(zgE c L d j).map intAV,3,true⟩)]) (fun j _ esc=>j<=L.length/\esc 7=false) (fun j=>L.length-j) 0 ?_ ?_ ?_ ?_
 ·exact⟨Nat.zero_le _,rfl⟩
 ·(simp only [go_sem])
  try rfl
 ·(simp only [go_sem])
  try rfl
 rintro j ws esc ⟨hj,e0⟩
 by_cases hlt:j<L.length
 ·obtain⟨x,hx⟩: ∃x,L[j]? =some x:=⟨L[j],List.getElem?_eq_getElem hlt⟩
  have q1:=nlt hlt
  have q2:=zac hlt (by omega)
  have f3:=zdB env c hc d x
  unfold zal at f3
  have hil:=zmV c L d j
  have hf:Fits ((zgE c L d j).length+1) 8:=zah (by omega) (by omega)
  have hn:=zlH (c:=c) (i:=d) hx
  cases hb:aboveB c d x with
  | true=>
    rw [hb] at f3
    rw [hb,if_pos rfl] at hn
    have F:=ai q1<|ai q2<|ai hx<|ai hf<|e0
    repeat (first | refine st ?_ | refine cC f1 ?_ | refine cC f3 ?_)
    refine⟨j+1,⟨hlt,by simp only [go_sem,e0]⟩, ?_, ?_,by omega⟩
    ·(simp only [go_sem,F])
    ·have F:=hn
     (simp only [go_sem,List.map_append,F])
  | false=>
    rw [hb] at f3
    rw [hb,if_neg Bool.false_ne_true] at hn
    have F:=ai q1<|ai q2<|ai hx<|ai hf<|e0
    repeat (first | refine st ?_ | refine cC f1 ?_ | refine cC f3 ?_)
    refine⟨j+1,⟨hlt,by simp only [go_sem,e0]⟩, ?_, ?_,by omega⟩
    ·(simp only [go_sem,F])
    ·have F:=hn
     (simp only [go_sem,List.map_append,F])
 ·obtain rfl:j=L.length:=by omega
  have q1: ¬(L.length:Int)< (L.length:Int):=by omega
  have hall:zgE c L d L.length=underL c L d:=by unfold zgE underL; rw [List.take_length]
  rw [hall]
  have F:=ai q1<|e0
  repeat refine st ?_
  exact aR
theorem zrL (env:Env) (l:List Int) (p:Int->Bool) (g:FuncId) (caps:List (List AV)) (hp: ∀d,Con Tryz.prog env g [I d, .ref 1 caps 0 0] (B (p d))) (hl:l.length<=4096):Con Tryz.prog env 193 [.seq 1 (l.map intAV), .clo g [.ref 1 caps 0 0]] (B (l.any p)):=by
 have f0:=zkn env l p g caps hp hl
 cases hi:idxQ p l with
 | none=>
   rw [hi] at f0
   have h0:l.any p=false:=List.any_eq_false.2 fun x hx=>by rw [(ziZ hi).2 x hx]; simp
   rw [h0]
   unfold idxJ at f0
   refine zaa Tryz.func193 rfl Tryz.call193 (by rw [Tryz.ntmps193]; simp) ?_
   rw [Tryz.ntmps193,Tryz.results193]
   repeat (first | refine st0 ?_ | refine cC0 f0 ?_)
   exact aR0
 | some i=>
   rw [hi] at f0
   obtain⟨_,_,d,h3,h4⟩:=ziY hi
   have h0:l.any p=true:=List.any_eq_true.2 ⟨d,List.mem_of_getElem? h3,h4⟩
   have q0:(0:Int)<=(i:Int):=by omega
   rw [h0]
   unfold idxJ at f0
   refine zaa Tryz.func193 rfl Tryz.call193 (by rw [Tryz.ntmps193]; simp) ?_
   rw [Tryz.ntmps193,Tryz.results193]
   have F:=q0
   repeat (first | refine st ?_ | refine cC f0 ?_)
   exact aR
theorem zsc (env:Env) (G:List Int) (hG:G.length<=1000000) (i:Int):Con Tryz.prog env 194 [I i, .ref 1 [[.seq 1 (G.map intAV)]] 0 0] (B (G.contains i)):=by
 have f0:=zb6 env G i hG
 refine zaa Tryz.func194 rfl Tryz.call194 (by rw [Tryz.ntmps194]; simp) ?_
 rw [Tryz.ntmps194,Tryz.results194]
 repeat (first | refine st0 ?_ | refine cC0 f0 ?_)
 exact aR0
def zrK (c:ChD) (l:List Int) (j:Nat):List Int:=(l.take j).filter (innerP c l)
theorem zsd {c:ChD} {l:List Int} {j:Nat} {x:Int} (h:l[j]? =some x):zrK c l (j+1)=if innerP c l x then zrK c l j++[x] else zrK c l j:=by
 unfold zrK
 rw [List.take_add_one,h,List.filter_append]
 cases hb:innerP c l x<;>simp [hb]
theorem zsr (c:ChD) (l:List Int) (j:Nat):(zrK c l j).length<=l.length:=by
 unfold zrK
 exact Nat.le_trans (List.length_filter_le ..) (by rw [List.length_take]; omega)
theorem zsq (env:Env) (c:ChD) (h:Full c) (l:List Int) (hl:l.length<=4000) (hz: ∀x∈l,inZ c x=true):Con Tryz.prog env 158 [zai c, .seq 1 (l.map intAV)] (.own 3 1 ((innerL c l).map intAV)):=by
 unfold zai
 refine zaa Tryz.func158 rfl Tryz.call158 (by rw [Tryz.ntmps158]; simp) ?_
 rw [Tryz.ntmps158,Tryz.results158]
 repeat refine st0 ?_
 refine zbo 5 5 3 1 ?_
 refine zab (D:=Nat) (fun j vs=>[(0, .ref 9 [tabCells c] 0 0),(3, .loc 3 (vs 3) 0 0),(5, .row 5 (vs 5)),(9, .seq 1 (l.map intAV)),(10,I l.length),(11,I j)]) (fun j _=>[(3,⟨1,[[.seq 1 (l.map intAV)]],35,false⟩),(5,⟨1,(zrK c l j).map intAV,3,true⟩)]) (fun j _ esc=>j<=l.length/\esc 3=false/\esc 5=false) (fun j=>l.length-j) 0 ?_ ?_ ?_ ?_
 ·exact⟨Nat.zero_le _,rfl,rfl⟩
 ·(simp only [go_sem])
  try rfl
 ·(simp only [go_sem])
  try rfl
 rintro j ws esc ⟨hj,e0,e1⟩
 by_cases hlt:j<l.length
 ·obtain⟨x,hx⟩: ∃x,l[j]? =some x:=⟨l[j],List.getElem?_eq_getElem hlt⟩
  have q1:=nlt hlt
  have q2:=zac hlt (by omega)
  have f2:=zbI env c h x
  rw [if_pos (.inr (hz x (List.mem_of_getElem? hx)))] at f2
  have hK:=zbz h.toRight x true
  have f3:=(zrL env (kidZ c x) (fun d=>l.contains d) 194 [[.seq 1 (l.map intAV)]] (zsc env l (by omega)) (by rw [zdQ]; omega)).lend rfl
  rw [ze8] at f3
  have hil:=zsr c l j
  have hf:Fits ((zrK c l j).length+1) 8:=zah (by omega) (by omega)
  have hn:=zsd (c:=c) hx
  have hP:innerP c l x= !((kidZ c x).any fun d=>l.contains d):=rfl
  generalize ((kidZ c x).any fun d=>l.contains d)=b at*
  generalize kidsL c x true=K at*
  unfold zai at f2
  cases b with
  | true=>
    rw [hP,Bool.not_true,if_neg Bool.false_ne_true] at hn
    have F:=ai q1<|ai q2<|ai hx<|ai hf<|ai e0<|e1
    repeat (first | refine st ?_ | refine cC f2 ?_)
    refine oL rfl (f3) (by simp only [go_sem,F]; exact iR) (by simp only [go_sem,F]; exact⟨rfl,rfl⟩) ?_
    repeat refine st ?_
    refine⟨j+1,⟨hlt,by simp only [go_sem,e0],by simp only [go_sem,e1]⟩, ?_, ?_,by omega⟩
    ·(simp only [go_sem,F])
    ·have F:=hn
     (simp only [go_sem,F])
  | false=>
    rw [hP,Bool.not_false,if_pos rfl] at hn
    have F:=ai q1<|ai q2<|ai hx<|ai hf<|ai e0<|e1
    repeat (first | refine st ?_ | refine cC f2 ?_)
    refine oL rfl (f3) (by simp only [go_sem,F]; exact iR) (by simp only [go_sem,F]; exact⟨rfl,rfl⟩) ?_
    repeat refine st ?_
    refine⟨j+1,⟨hlt,by simp only [go_sem,e0],by simp only [go_sem,e1]⟩, ?_, ?_,by omega⟩
    ·(simp only [go_sem,F])
    ·have F:=hn
     (simp only [go_sem,List.map_append,F])
 ·obtain rfl:j=l.length:=by omega
  have q1: ¬(l.length:Int)< (l.length:Int):=by omega
  have hall:zrK c l l.length=l.filter (innerP c l):=by unfold zrK; rw [List.take_length]
  rw [hall]
  have hU:(l.filter (innerP c l)).length<=l.length:=List.length_filter_le ..
  unfold innerL
  generalize l.filter (innerP c l)=U at*
  have f4:=zj4 U (by omega)
  have F:=ai q1<|ai e0<|e1
  repeat refine st ?_
  refine zn9 5 rfl (row:=⟨1,U.map intAV,3,true⟩) f4 (Nat.succ_ne_zero 0) rfl (zbc _).symm (by simp only [go_sem,e0,e1]; exact iR) (by simp only [go_sem,e0,e1]; exact iR) (by simp only [go_sem,e0,e1]; exact iR) (by simp only [go_sem,e0,e1]; exact iR) ?_
  rw [zbc]
  repeat refine st ?_
  exact aR
end
section
theorem zrt {P:Program} (w:World) (dT sT ty elem:TypeId) (ie:TypeInfo) (hi:P.info? elem=some ie) (g o dLen dCap:Nat) (a:Addr) (sLen sCap:Nat) (cur:Array Value) (t:TypeId) (cs:List Value) (k:Nat) (hu:P.underlying dT=some (.slice elem))
 (hg:w.heap[g]? =some (.cells cur t (0,0))) (hk:Nat.min sLen dLen=k) (hn:cs.length=k*ie.size) (hsrc: ∀j v,cs[j]? =some v->w.cell? (a.add j)=some v) (hfit:o+cs.length<=cur.size) (h1: ∀v∈cs,v.oneCell'=true):
 (Builtin.copy_ #[dT,sT] ty #[.slice (some ⟨g,o,none⟩) dLen dCap, .slice (some a) sLen sCap]).run P w= .ok (goInt k) (w.setRow g (cur.toList.take o++cs++cur.toList.drop (o+cs.length)).toArray):=by
 have hl:=run_loadCells_list (P:=P) w a cs hsrc
 have hst:=run_storeCells_at P g o t cs 0 cur w hg (by simpa using hfit) h1
 simp only [Nat.add_zero] at hst
 simp [Builtin.copy_,run_underlying hu,Builtin.lenOf,Builtin.firstCells,sizeOf,typeInfo,hi,hk, <-hn,hl,hst]
structure Insr (P:Program) (f:FuncId) (e:TypeId) (sz:Nat):Prop where
 enter: ∀(args:Array Value) (w:World),(callFunc f args).run P w= .ok (.enter f args) w
 calls: ∀(w:World) (base i n:Nat) (v u:Value) (xs ys:List Value),base<=w.heap.size->w.ownsRow base e sz v n xs->w.ownsRow base e sz u 1 ys->(∀g,v.ownBlock=some g->u.ownBlock≠some g)->(∀x∈xs,x.oneCell'=true)->(∀y∈ys,y.oneCell'=true)->i<=n->n<=4096->
  Calls P f #[v, .int .i64 (i:Int),u] w fun ex w'=> ∃v',ex= .returned v'/\w.grownBy w' v.ownBlock/\(∀g,v'.ownBlock=some g->v.ownBlock=some g\/w.heap.size<=g)/\w'.ownsRow base e sz v' (n+1) (xs.take (i*sz)++ys++xs.drop (i*sz))
def zrJ (i:Nat) (y:List AV) (es:List (List AV)):List (List AV):=es.take i++y::es.drop i
theorem zsp (i:Nat) (y:List AV) (es:List (List AV)):(zrJ i y es).length=es.length+1:=by
 unfold zrJ
 rw [List.length_append,List.length_cons,List.length_take,List.length_drop]
 omega
theorem zrT {i:Nat} {y:List AV} {es:List (List AV)} (hi:i<=es.length) (p:Nat):(zrJ i y es)[p]? =if p<i then es[p]? else if p=i then some y else es[p-1]? :=by
 have hl:(es.take i).length=i:=by rw [List.length_take]; omega
 unfold zrJ
 by_cases h1:p<i
 ·rw [if_pos h1,List.getElem?_append_left (by omega),List.getElem?_take,if_pos h1]
 ·rw [if_neg h1,List.getElem?_append_right (by omega),hl]
  by_cases h2:p=i
  ·subst h2
   rw [if_pos rfl,Nat.sub_self]
   rfl
  ·rw [if_neg h2,show p-i=(p-1-i)+1 by omega,List.getElem?_cons_succ,List.getElem?_drop,show i+(p-1-i)=p-1 by omega]
theorem zsI {i sz n:Nat} {xs ys:List Value} (hx:xs.length=n*sz) (hy:ys.length=sz) (hi:i<=n) (p j:Nat) (hj:j<sz):
 (xs.take (i*sz)++ys++xs.drop (i*sz))[p*sz+j]? =if p<i then xs[p*sz+j]? else if p=i then ys[j]? else xs[(p-1)*sz+j]? :=by
 have hi2:i*sz<=n*sz:=Nat.mul_le_mul_right _ hi
 have hl:(xs.take (i*sz)).length=i*sz:=by rw [List.length_take]; omega
 by_cases h1:p<i
 ·have:(p+1)*sz<=i*sz:=Nat.mul_le_mul_right _ h1
  rw [Nat.succ_mul] at this
  rw [if_pos h1,List.append_assoc,List.getElem?_append_left (by omega),List.getElem?_take,if_pos (by omega)]
 ·rw [if_neg h1]
  by_cases h2:p=i
  ·subst h2
   rw [if_pos rfl,List.append_assoc,List.getElem?_append_right (by omega),hl,Nat.add_sub_cancel_left,List.getElem?_append_left (by omega)]
  ·have h3:(i+1)*sz<=p*sz:=Nat.mul_le_mul_right _ (by omega)
   rw [Nat.succ_mul] at h3
   have h4:p*sz=(p-1)*sz+sz:=by rw [<-Nat.succ_mul]; congr 1; omega
   rw [if_neg h2,List.getElem?_append_right (by rw [List.length_append]; omega),List.length_append,hl,List.getElem?_drop]
   congr 1
   omega
theorem zsu {P:Program} {env:Env} {f:FuncId} {r r2 ver ver2:Nat} {row row2:Row} {rows:Nat->Option Row} {vsv:Nat->Nat} {i:Nat} {y:List AV} (hC:Insr P f row.e row.sz) (hr:rows r=some row) (hr2:rows r2=some row2) (hne:r2≠r) (hv:vsv r=ver) (hv2:vsv r2=ver2) (hrz:row.sz≠0) (hp:row.pure=true) (hp2:row2.pure=true)
 (e2:row2.e=row.e) (z2:row2.sz=row.sz) (y2:row2.es=[y]) (hi:i<=row.es.length) (hn:row.es.length<=4096):
 Acts P env f [.row r ver, .lit (.int .i64 (i:Int)), .row r2 ver2] [r,r2] rows vsv ⟨.row r (ver+1),[.renew r { row with es:=zrJ i y row.es }]⟩:=by
 refine⟨hC.enter,fun x s a w m vs hx hS hro hl hvs=> ?_⟩
 obtain⟨q1,q2,q3⟩:=hro r (by simp)
 obtain⟨p1,p2,p3⟩:=hro r2 (by simp)
 rw [hr] at q1
 rw [hv] at q2
 rw [hr2] at p1
 rw [hv2] at p2
 match vs,hl with
 | [u,iv,u2],_=>
 have hu:u=m.ρ r:=(hvs 0 u _ rfl rfl).row_.2 q2 row q1
 have hu2:u2=m.ρ r2:=(hvs 2 u2 _ rfl rfl).row_.2 p2 row2 p1
 have hiv:iv= .int .i64 (i:Int):=(hvs 1 iv _ rfl rfl).lit_
 subst hu hu2 hiv
 have k:=(hS.rows r row q1).cells hrz
 have k2:=(hS.rows r2 row2 p1).cells (by rw [z2]; exact hrz)
 obtain⟨xs,c1,c2,c3⟩:=k.own
 obtain⟨ys,d1,d2,d3⟩:=k2.own
 rw [y2,e2,z2] at d1
 have hyl:ys.length=row.sz:=by have:=d1.1; simpa using this
 refine(hC.calls w x.w.heap.size i row.es.length (m.ρ r) (m.ρ r2) xs ys hS.bel.size c1 d1 (fun g hg=>hS.inj r r2 row row2 q1 p1 (Ne.symm hne) g hg) c2 d2 hi hn).mono ?_
 rintro ex w' ⟨v',rfl,hg,hsub,ho⟩
 have hb:Below x.w.heap.size w w':=⟨hg.os,hg.tape,hg.output,hg.size,fun q hq=>hg.block q (Nat.lt_of_lt_of_le hq hS.bel.size) fun e=>by
  have:=(za2 c1 e.symm).1
  omega⟩
 have hnS: ∀g,(m.ρ r).ownBlock=some g-> ∀o,¬m.S g o:=k.fresh q3
 have hnS2: ∀g,v'.ownBlock=some g-> ∀o,¬m.S g o:=fun g hgv o hh=>by
  rcases hsub g hgv with e | e
  ·exact hnS g e o hh
  ·have:=hS.low g o hh
   omega
 have hcell: ∀b o,m.S b o->m.S b o/\Stay w w' b o:=fun b o hh=>⟨hh, .block (hg.block b (hS.low b o hh) fun e=>hnS b e.symm o hh)⟩
 have hρ:(⟨m.S,upd m.ρ r v'⟩:Mem).ρ r=v':=upd_same ..
 have hS2:Sim x (s.renew r { row with es:=zrJ i y row.es } false) a w' ⟨m.S,upd m.ρ r v'⟩:=by
  refine hS.renew r _ false v' m.S hb hcell (fun b o hh=> .inl hh) (fun q row1 hnq hq gq hgq=>⟨?_,fun e=> ?_,fun _ hh=>hh⟩) ?_ fun b hf=>⟨hg.block b (hS.fxlt hf) fun e=>hS.nofx r row q1 b e.symm hf,fun _ hh=>hh,fun e=> ?_⟩
  ·exact hg.block gq ((hS.rows q row1 hq).blk hgq).2 fun e=>hS.inj r q row row1 q1 hq (Ne.symm hnq) gq e.symm hgq
  ·rcases hsub gq e with e | e
   ·exact hS.inj r q row row1 q1 hq (Ne.symm hnq) gq e hgq
   ·have:=((hS.rows q row1 hq).blk hgq).2
    omega
  ·have hlen:=zsp i y row.es
   refine .inl ⟨k.pos,fun p e he=> ?_,⟨xs.take (i*row.sz)++ys++xs.drop (i*row.sz),by rw [hρ]; show w'.ownsRow _ _ _ _ (zrJ i y row.es).length _; rw [hlen]; exact ho, ?_, ?_⟩,fun he=> ?_,fun g hg' o _=> ?_,fun _ g hg' o=> ?_⟩
   ·rw [zrT hi] at he
    split at he
    ·exact k.len _ _ he
    ·split at he
     ·cases he
      have:=k2.len 0 y (by rw [y2]; rfl)
      rw [z2] at this
      exact this
     ·exact k.len _ _ he
   ·intro u hu
    rcases List.mem_append.1 hu with hu | hu
    ·rcases List.mem_append.1 hu with hu | hu
     ·exact c2 u (List.mem_of_mem_take hu)
     ·exact d2 u hu
    ·exact c2 u (List.mem_of_mem_drop hu)
   ·intro p j c hc
    have hj:j<row.sz:=by
     unfold cellAt at hc
     cases hpe:(zrJ i y row.es)[p]? with
     | none=>rw [hpe] at hc; cases hc
     | some e=>
       rw [hpe] at hc
       have hc:e[j]? =some c:=hc
       have hjl:=(List.getElem?_eq_some_iff.1 hc).1
       rw [zrT hi] at hpe
       split at hpe
       ·rw [k.len _ _ hpe] at hjl; exact hjl
       ·split at hpe
        ·cases hpe
         have:=k2.len 0 y (by rw [y2]; rfl)
         rw [z2] at this
         omega
        ·rw [k.len _ _ hpe] at hjl; exact hjl
    rw [zsI c1.1 hyl hi p j hj]
    unfold cellAt at hc
    rw [zrT hi] at hc
    suffices h: ∃u,(if p<i then xs[p*row.sz+j]? else if p=i then ys[j]? else xs[(p-1)*row.sz+j]?)=some u/\RV m.S w' u c by
     obtain⟨u,g1,g2⟩:=h
     exact⟨u,g1,by show (if row.pure=true then _ else _); rw [if_pos hp]; exact g2⟩
    by_cases h1:p<i
    ·rw [if_pos h1] at hc |-
     obtain⟨u,g1,g2⟩:=c3 p j c hc
     rw [if_pos hp] at g2
     exact⟨u,g1,g2.mono hcell⟩
    ·rw [if_neg h1] at hc |-
     by_cases h2:p=i
     ·rw [if_pos h2] at hc |-
      obtain⟨u,g1,g2⟩:=d3 0 j c (by unfold cellAt; rw [y2]; exact hc)
      rw [if_pos hp2] at g2
      refine⟨u,by rw [Nat.zero_mul,Nat.zero_add] at g1; exact g1,g2.mono hcell⟩
     ·rw [if_neg h2] at hc |-
      obtain⟨u,g1,g2⟩:=c3 (p-1) j c hc
      rw [if_pos hp] at g2
      exact⟨u,g1,g2.mono hcell⟩
   ·have he:upd s.esc r false r=true:=he
    rw [upd_same] at he
    cases he
   ·rw [hρ] at hg'; exact hnS2 g hg' o
   ·rw [hρ] at hg'; exact hnS2 g hg' o
  ·rcases hsub b e with e | e
   ·exact hS.nofx r row q1 b e hf
   ·have:=hS.fxlt hf
    omega
 have h1:v'.oneCell'=true:=by
  rcases ho.2 with⟨ee,_⟩ | ⟨g,cp,cur,ee,_⟩<;>rw [ee]<;>rfl
 refine⟨v',_,rfl,hS2, .row r (ver+1) h1 ?_ fun _ row' _=> ?_⟩
 ·show ver+1<=upd s.vs r (s.vs r+1) r
  rw [upd_same,q2]
  exact Nat.le_refl _
 ·show v'=upd m.ρ r v' r
  rw [upd_same]
section
variable {P:Program} {env:Env} {s:St}
theorem zst {o:Oper} {f:FuncId} {args:List AV} {rest:List Stp} {s1:St} {row row2:Row} {i:Nat} {y:List AV} {ft:Foot} {K:St->List Foot->Prop} (r r2:Nat) (hc:zaN env s.f o=some (f,args)) (hC:Insr P f row.e row.sz) (hrz:row.sz≠0) (hp:row.pure=true) (hp2:row2.pure=true) (e2:row2.e=row.e) (z2:row2.sz=row.sz) (y2:row2.es=[y]) (hne:r2≠r) (hi:i<=row.es.length) (hn:row.es.length<=4096)
 (ha:Is args [.row r (s.vs r), .lit (.int .i64 (i:Int)), .row r2 (s.vs r2)]) (hr:Is (s.rows r) (some row)) (hr2:Is (s.rows r2) (some row2)) (he:Is (s.esc r) false) (he2:Is (s.esc r2) false) (h1:Is ((⟨.row r (s.vs r+1),[.renew r { row with es:=zrJ i y row.es }]⟩:Out).app o.dst s) s1) (h2:Is (⟨[r,r2],[r,r2],[r],[]⟩:Foot) ft) (k:aops P env rest s1 fun s2 fts=>K s2 (ft::fts)):aops P env (⟨o, .always⟩::rest) s K:=by
 unfold Is at h2
 subst h2
 exact zjJ hc ha (zsu hC hr hr2 hne rfl rfl hrz hp hp2 e2 z2 y2 hi hn) (fun q hq=>by
  rcases List.mem_cons.1 hq with rfl | hq
  ·exact he
  ·rw [List.mem_singleton.1 hq]; exact he2) h1 k
end
end
section
theorem zrv {P:Program} (w:World) {ops:Array Oper} {rest:List Oper} {o:Oper} {a:Act} {Q:Exit->Act->World->Prop} (hgd:o.guard=none) (d s:Operand) (t t':TypeId)
 (ho:o.op= .call { callee:= .builtin .copy,args:= #[d,s],argTypes:= #[t,t'] }) (v u:Value) (hd:a.eval d=v) (hs:a.eval s=u) {v':Value} {w':World}
 (hr:(Builtin.copy_ #[t,t'] o.type #[v,u]).run P w= .ok v' w') (h:wpList P ops Q rest (a.put o.dst v') w'):wpList P ops Q (o::rest) a w:=
 wpList_plain hgd fun K hK=>by
  unfold Oper.wp execOp
  simp only [ho,resolve,invoke,builtin,Sem.run_bind,Sem.run_pure,Result.andThen_ok,List.map_toArray,List.map_cons,List.map_nil,hd,hs,hr]
  exact hK _ _ h
theorem zrD {P:Program} {ops:Array Oper} {o:Oper} {a:Act} {w:World} {K:Act->World->Prop} {Q:Exit->Act->World->Prop} {E:Prop}
 (hg:o.guard=none) (d x:Operand) (dT sT:TypeId) (hop:o.op=Op.call { callee:=Callee.builtin Builtin.copy,args:= #[d,x],argTypes:= #[dT,sT] })
 (v u:Value) (hd:a.eval d=v) (hx:a.eval x=u) {v':Value} {w':World} (hr:(Builtin.copy_ #[dT,sT] o.type #[v,u]).run P w= .ok v' w') (hK:K (a.put o.dst v') w'):
 if Region.wanted o (yielded ops a.tmps)=true then Oper.wp P o a w K Q else E:=by
 rw [if_pos (by simp [Region.wanted,hg])]
 unfold Oper.wp
 simp [execOp,hop,resolve,invoke,builtin,hd,hx,hr,Result.andThen]
 exact hK
theorem zrR {w:World} {base n sz:Nat} {e:TypeId} {v:Value} {xs:List Value} (h:w.ownsRow base e sz v n xs) (hn:0<n):
 ∃g cap cur,v= .slice (some ⟨g,0,none⟩) n cap/\base<=g/\w.heap[g]? =some (.cells cur e (0,0))/\n<=cap/\cap<=maxLen/\cur.size=cap*sz/\cur.toList.take (n*sz)=xs:=by
 rcases h.2 with⟨_,h⟩ | h
 ·omega
 ·exact h
theorem zry {w:World} {g:Nat} {cur:Array Value} {e:TypeId} (hg:w.heap[g]? =some (.cells cur e (0,0))) (k:Nat):w.cell? ⟨g,k,none⟩=cur[k]? :=by simp [World.cell?,hg]
theorem zrN {w:World} {g:Nat} {cur:Array Value} {e:TypeId} (hg:w.heap[g]? =some (.cells cur e (0,0))) (k:Nat):w.frozen? ⟨g,k,none⟩=false:=by simp [World.frozen?,hg]
theorem zsC (w:World) (base n:Nat) (v u:Value) (xs ys:List Value) (hbw:base<=w.heap.size) (hx:w.ownsRow base 133 2 v n xs) (hy:w.ownsRow base 133 2 u 1 ys) (h1y: ∀y∈ys,y.oneCell'=true) (hn:n<=4096):
 Calls Tryz.prog 198 #[v, .int .i64 (n:Int),u] w fun ex w'=> ∃v',ex= .returned v'/\w.grownBy w' v.ownBlock/\(∀g,v'.ownBlock=some g->v.ownBlock=some g\/w.heap.size<=g)/\w'.ownsRow base 133 2 v' (n+1) (xs++ys):=by
 obtain⟨hu,ie,ze,i1,i2,i3,i4,i5⟩:=zaF Tryz.tyd63
 have hzc:ze.cells.size=2:=by
  have:=congrArg List.length i5
  simpa using this
 obtain⟨g2,c2,cur2,rfl,_,hg2,_⟩:=zrR hy (by omega)
 obtain⟨v',w',hrun,ho,hgr⟩:=zc0 (P:=Tryz.prog) w base 63 63 133 ie ze 2 32 hu i1 i2 i3 i4 hzc (by decide) v n xs hx (some ⟨g2,0,none⟩) 1 c2 ys hy.1 (fun _=>⟨_,rfl,fun j y hj=>hy.cells rfl j y hj⟩) h1y (by unfold maxLen; omega) (by omega) hbw
 have fin: ∃v'',Ending.returned v'= .returned v''/\w.grownBy w' v.ownBlock/\(∀g,v''.ownBlock=some g->v.ownBlock=some g\/w.heap.size<=g)/\w'.ownsRow base 133 2 v'' (n+1) (xs++ys):=by
  refine⟨v',rfl, ?_,fun g hg=> ?_,ho⟩
  ·rcases hgr with⟨_,h⟩ | ⟨_,h⟩
   ·exact h
   ·exact⟨h.os,h.tape,h.output,h.size,fun k hk _=>h.block k hk (by simp)⟩
  ·rcases hgr with⟨e,_⟩ | ⟨e,_⟩
   ·rw [e] at hg; exact .inl hg
   ·rw [e] at hg; cases hg; exact .inr (Nat.le_refl _)
 try clear hgr ho i1 i2 i3 i4 i5 hzc
 rcases hx.2 with⟨rfl,rfl⟩ | ⟨g,cap,cur,rfl,_,hg,hnc,hcm,_,_⟩
 ·clear hx hy
  go_enter Tryz.func198,Tryz.ntmps198
  go_wp2_with (at_builtin; refine Lib.wpList_append_run _ rfl _ _ _ _ rfl _ _ rfl rfl _ _ hrun ?_)
  all_goals (go_ret; exact fin)
 ·clear hx hy
  unfold maxLen at hcm
  go_enter Tryz.func198,Tryz.ntmps198
  go_wp2_with (at_builtin; refine Lib.wpList_append_run _ rfl _ _ _ _ rfl _ _ rfl rfl _ _ hrun ?_)
  all_goals (go_ret; exact fin)
def offR (cur:Array Value) (i n:Nat):List Value:=(cur.toList.drop (i*2)).take ((n-i)*2)
def zrq (l:List Value) (o:Nat) (cs:List Value):List Value:=l.take o++cs++l.drop (o+cs.length)
theorem zrG {cur:Array Value} {i n cap:Nat} (hs:cur.size=cap*2) (hin:i<=n) (hn:n<=cap):(offR cur i n).length=(n-i)*2:=by
 unfold offR
 rw [List.length_take,List.length_drop,Array.length_toList,hs]
 omega
theorem zrS {cur:Array Value} {i n j:Nat} {v:Value} (h:(offR cur i n)[j]? =some v):cur[i*2+j]? =some v:=by
 unfold offR at h
 rw [List.getElem?_take] at h
 split at h
 ·rw [List.getElem?_drop] at h
  simpa using h
 ·cases h
theorem zrr {l:List Value} {o:Nat} {cs:List Value} (h:o+cs.length<=l.length):(zrq l o cs).length=l.length:=by
 unfold zrq
 simp only [List.length_append,List.length_take,List.length_drop]
 omega
theorem zrE {w w':World} {g:Nat} {R:Array Value} (h:w.grownBy w' (some g)):w.grownBy (w'.setRow g R) (some g):=
 ⟨h.os,h.tape,h.output,by simp [World.setRow]; exact h.size,fun k hk hne=>by rw [setRow_other w' g k R (fun e=>hne (by rw [e]))]; exact h.block k hk hne⟩
theorem zrC {w w':World} {r:Option Nat} (h:w.grownBy w' r):w.grownBy w'.drew r:=⟨h.os,h.tape,h.output,h.size,h.block⟩
theorem zsn (w:World) (g cap i n g2 c2:Nat) (cur cur2:Array Value) (hg:w.heap[g]? =some (.cells cur 133 (0,0))) (hg2:w.heap[g2]? =some (.cells cur2 133 (0,0))) (hne:g2≠g) (hi:i<n) (hroom:n+1<=cap) (hcap:cap<=9223372036854775807) (hsz:cur.size=cap*2) (hsz2:cur2.size=c2*2) (hc2:1<=c2)
 (h1c: ∀u∈offR cur i n,u.oneCell'=true) (h1y: ∀u∈offR cur2 0 1,u.oneCell'=true) (hn:n<=4096):
 Calls Tryz.prog 198 #[.slice (some ⟨g,0,none⟩) n cap, .int .i64 (i:Int), .slice (some ⟨g2,0,none⟩) 1 c2] w fun e w'=>
  e= .returned (.slice (some ⟨g,0,none⟩) (n+1) cap)/\w.grownBy w' (some g)/\w'.heap[g]? =some (.cells (zrq (zrq cur.toList ((i+1)*2) (offR cur i n)) (i*2) (offR cur2 0 1)).toArray 133 (0,0)):=by
 obtain⟨hu,ie,ze,i1,i2,i3,i4,i5⟩:=zaF Tryz.tyd63
 have hol:=zrG hsz (Nat.le_of_lt hi) (by omega:n<=cap)
 have hyl:=zrG hsz2 (Nat.zero_le 1) hc2
 have hl1:(zrq cur.toList ((i+1)*2) (offR cur i n)).length=cap*2:=by rw [zrr (by rw [hol,Array.length_toList,hsz]; omega),Array.length_toList,hsz]
 have hov: ∀(W:World) (lb cb:Nat),W.heap=w.heap->(callFunc 233 #[.slice (some ⟨g2,0,none⟩) 1 c2, .slice (some ⟨g,(i+1)*2,none⟩) lb cb]).run Tryz.prog W= .ok (.value (.bool false)) W:=fun W lb cb hW=>by
  have k1:W.heap[g]? =some (.cells cur 133 (0,0)):=by rw [hW]; exact hg
  have k2:W.heap[g2]? =some (.cells cur2 133 (0,0)):=by rw [hW]; exact hg2
  rw [run_callFunc_extern Tryz.func233 (by kernel_rfl) (by kernel_rfl) (by kernel_rfl) (e:=Extern.SlicesOverlaps.overlaps #[63,63] #[4]) (by kernel_rfl),
   Lib.run_overlaps_apart W 63 4 133 hu 2 (fun w0=>by simp [sizeOf,typeInfo,i1,i3]) ⟨g2,0,none⟩ ⟨g,(i+1)*2,none⟩ 1 c2 lb cb hne 133 133 cur2.size cur.size (by simp [World.shape?,k2]) (by simp [World.shape?,k1]) (by omega) (zrN k2 _) (zrN k2 _)]
  rfl
 have hcp1: ∀(W:World),W.heap=w.heap-> ∀(ty:TypeId) (dc sc:Nat),(Builtin.copy_ #[63,63] ty #[.slice (some ⟨g,(i+1)*2,none⟩) (n-i) dc, .slice (some ⟨g,i*2,none⟩) (n+1-i) sc]).run Tryz.prog W= .ok (goInt ((n-i:Nat):Int)) (W.setRow g (zrq cur.toList ((i+1)*2) (offR cur i n)).toArray):=fun W hW ty dc sc=>by
  have k1:W.heap[g]? =some (.cells cur 133 (0,0)):=by rw [hW]; exact hg
  exact zrt W _ _ ty 133 ie i1 g ((i+1)*2) (n-i) dc ⟨g,i*2,none⟩ (n+1-i) sc cur 133 (offR cur i n) (n-i) hu k1 (by simp only [Nat.min_def]; split<;>omega) (by rw [hol,i3])
   (fun j v hj=>by rw [Addr.add_lit,zry k1]; exact zrS hj) (by rw [hol,hsz]; omega) h1c
 obtain⟨R1,hR1⟩: ∃R1,R1=zrq cur.toList ((i+1)*2) (offR cur i n):=⟨_,rfl⟩
 rw [<-hR1] at hcp1 hl1 |-
 have hcp2: ∀(W:World),W.heap=(w.setRow g R1.toArray).heap-> ∀(ty:TypeId) (dc:Nat),(Builtin.copy_ #[63,63] ty #[.slice (some ⟨g,i*2,none⟩) (n+1-i) dc, .slice (some ⟨g2,0,none⟩) 1 c2]).run Tryz.prog W= .ok (goInt 1) (W.setRow g (zrq R1 (i*2) (offR cur2 0 1)).toArray):=fun W hW ty dc=>by
  have k1:W.heap[g]? =some (.cells R1.toArray 133 (0,0)):=by rw [hW]; exact setRow_heap w g cur _ _ _ hg
  have k2:W.heap[g2]? =some (.cells cur2 133 (0,0)):=by rw [hW,setRow_other w g g2 _ hne]; exact hg2
  exact zrt W _ _ ty 133 ie i1 g (i*2) (n+1-i) dc ⟨g2,0,none⟩ 1 c2 R1.toArray 133 (offR cur2 0 1) 1 hu k1 (by simp only [Nat.min_def]; split<;>omega) (by rw [hyl,i3])
   (fun j v hj=>by rw [Addr.add_lit,zry k2]; exact zrS hj) (by rw [hyl]; simp only [List.size_toArray,hl1]; omega) h1y
 have fin: ∀(W:World),W=((w.drew.setRow g R1.toArray).setRow g (zrq R1 (i*2) (offR cur2 0 1)).toArray)->w.grownBy W (some g)/\W.heap[g]? =some (.cells (zrq R1 (i*2) (offR cur2 0 1)).toArray 133 (0,0)):=fun W hW=>by
  rw [hW]
  exact⟨zrE (zrE (zrC (World.grownBy.refl w _))),setRow_heap _ g _ _ _ _ (setRow_heap w.drew g cur _ _ _ hg)⟩
 obtain⟨R2,hR2⟩: ∃R2,R2=(zrq R1 (i*2) (offR cur2 0 1)).toArray:=⟨_,rfl⟩
 rw [<-hR2] at hcp2 fin |-
 obtain⟨A1,hA1⟩: ∃A1,A1=R1.toArray:=⟨_,rfl⟩
 rw [<-hA1] at hcp1 hcp2 fin
 have hw1:IntKind.i64.wrap ((i:Int)+1)=(i:Int)+1:=by rw [IntKind.wrap_i64]; omega
 have hw2:IntKind.i64.wrap ((n:Int)+1)=(n:Int)+1:=by rw [IntKind.wrap_i64]; omega
 have hz2: ¬((i:Int)=(n:Int)):=by omega
 have hb1:(0:Int)<=(i:Int)+1:=by omega
 have hin:i<=n:=by omega
 have htn:((i:Int)+1).toNat=i+1:=by omega
 have hb2: ¬(cap=i+1):=by omega
 have hb4: ¬(cap=i):=by omega
 have hb5: ¬((cap:Int)< (n:Int)+1):=by omega
 have hb3:(i:Int)<=(n:Int)+1:=by omega
 try clear hol hyl hl1 hsz hsz2 h1c h1y hR1 hR2 hA1 i1 i2 i3 i4 i5
 go_enter Tryz.func198,Tryz.ntmps198
 go_wp2_with (simp only [hov _ _ _ rfl])
 go_region_law (refine zrD rfl _ _ 63 63 rfl _ _ (by simp [Act.eval,Act.put]) (by simp [Act.eval,Act.put]) (hcp1 w.drew rfl 3 (cap-(i+1)) (cap-i)) ?_)
 go_wp2_with (refine zrv _ rfl _ _ 63 63 rfl _ _ rfl rfl (hcp2 (w.drew.setRow g A1) rfl _ _) ?_)
 go_ret
 exact⟨rfl,fin _ rfl⟩
theorem zso (w:World) (g cap i n g2 c2:Nat) (cur cur2:Array Value) (hg:w.heap[g]? =some (.cells cur 133 (0,0))) (hg2:w.heap[g2]? =some (.cells cur2 133 (0,0))) (hi:i<n) (hnc:n<=cap) (hroom:cap<n+1) (hsz:cur.size=cap*2) (hsz2:cur2.size=c2*2) (hc2:1<=c2)
 (h1c: ∀u∈offR cur i n,u.oneCell'=true) (h1y: ∀u∈offR cur2 0 1,u.oneCell'=true) (hn:n<=4096):
 Calls Tryz.prog 198 #[.slice (some ⟨g,0,none⟩) n cap, .int .i64 (i:Int), .slice (some ⟨g2,0,none⟩) 1 c2] w fun e w'=> ∃(G:Nat) (Z:List Value),
  e= .returned (.slice (some ⟨w.heap.size,0,none⟩) (n+1) G)/\w.grownBy w' none/\n+1<=G/\G<=maxLen/\Z.length=(G-i)*2/\w'.heap[w.heap.size]? =some (.cells (zrq (zrq (cur.toList.take (i*2)++Z) (i*2) (offR cur2 0 1)) ((i+1)*2) (offR cur i n)).toArray 133 (0,0)):=by
 obtain⟨hu,ie,ze,i1,i2,i3,i4,i5⟩:=zaF Tryz.tyd63
 have hzc:ze.cells.size=2:=by
  have:=congrArg List.length i5
  simpa using this
 have hol:=zrG hsz (Nat.le_of_lt hi) hnc
 have hyl:=zrG hsz2 (Nat.zero_le 1) hc2
 have hgw:g<w.heap.size:=(Array.getElem?_eq_some_iff.1 hg).1
 have hgw2:g2<w.heap.size:=(Array.getElem?_eq_some_iff.1 hg2).1
 have hkk:(n:Int)+1-(i:Int)=((n+1-i:Nat):Int):=by omega
 have hik:i+(n+1-i)=n+1:=by omega
 have hold:(Builtin.firstCells ie.size i (.slice (some ⟨g,0,none⟩) i cap)).run Tryz.prog w.drew= .ok (cur.toList.take (i*2)).toArray w.drew:=by
  rw [i3]
  refine run_firstCells_some w.drew 2 i ⟨g,0,none⟩ i cap (cur.toList.take (i*2)) (by rw [List.length_take,Array.length_toList]; omega) fun j v hj=> ?_
  rw [Addr.add_lit]
  show w.cell? _=_
  rw [zry hg]
  rw [List.getElem?_take] at hj
  split at hj
  ·simpa using hj
  ·cases hj
 have hui:Tryz.prog.underlying 3=some (.int .i64):=Tryz.underlying3
 have hrz: ∀ty,(Builtin.append_ #[63,3] ty #[.slice (some ⟨g,0,none⟩) i cap, .int .i64 ((n:Int)+1-(i:Int))]).run Tryz.prog w= .ok (.slice (some ⟨w.heap.size,0,none⟩) (n+1) (grownCap w (n+1) cap 133)) (w.drew.alloc (.cells ((cur.toList.take (i*2)).toArray++Builtin.zeroCells ze.cells (n+1-i)++Builtin.zeroCells ze.cells (grownCap w (n+1) cap 133-(n+1))) 133)):=fun ty=>by
  have h:=Lib.run_append_grow_zeros w 63 3 ty 133 ie ze .i64 .i64 hu hui i1 i2 (some ⟨g,0,none⟩) i cap (cur.toList.take (i*2)) hold (n+1-i) (by omega) (by omega) (by omega) (by omega) (by rw [i4]; omega) (by rw [i4,hik]; exact growslice_fits hroom (by omega))
  rw [hik] at h
  rw [hkk]
  exact h
 obtain⟨G,hG⟩: ∃G,G=grownCap w (n+1) cap 133:=⟨_,rfl⟩
 rw [<-hG] at hrz
 have hGn:n+1<=G:=by rw [hG]; exact grownCap_ge w _ _ _
 have hGm:G<=maxLen:=by rw [hG]; exact grownCap_le_maxLen w _ _ _ (by unfold maxLen; omega)
 obtain⟨Z,hZ⟩: ∃Z:List Value,Z=(Builtin.zeroCells ze.cells (n+1-i)).toList++(Builtin.zeroCells ze.cells (G-(n+1))).toList:=⟨_,rfl⟩
 have hZl:Z.length=(G-i)*2:=by
  rw [hZ,List.length_append,Array.length_toList,Array.length_toList,size_zeroCells,size_zeroCells,hzc]
  omega
 obtain⟨R0,hR0⟩: ∃R0:List Value,R0=cur.toList.take (i*2)++Z:=⟨_,rfl⟩
 have hr0:(cur.toList.take (i*2)).toArray++Builtin.zeroCells ze.cells (n+1-i)++Builtin.zeroCells ze.cells (G-(n+1))=R0.toArray:=by
  rw [hR0,hZ]
  apply Array.ext'
  simp
 have hrl:R0.length=G*2:=by
  rw [hR0,List.length_append,hZl,List.length_take,Array.length_toList,hsz]
  omega
 rw [hr0] at hrz
 obtain⟨W1,hW1⟩: ∃W1,W1=w.drew.alloc (.cells R0.toArray 133):=⟨_,rfl⟩
 rw [<-hW1] at hrz
 have hn1:W1.heap[w.heap.size]? =some (.cells R0.toArray 133 (0,0)):=by rw [hW1]; exact World.alloc_heap_new w.drew _
 have hn2:W1.heap[g]? =some (.cells cur 133 (0,0)):=by rw [hW1,Below.heap_alloc _ _ _ (by exact hgw)]; exact hg
 have hn3:W1.heap[g2]? =some (.cells cur2 133 (0,0)):=by rw [hW1,Below.heap_alloc _ _ _ (by exact hgw2)]; exact hg2
 have hgr1:w.grownBy W1 none:=by rw [hW1]; exact⟨rfl,rfl,rfl,by simp,fun k hk _=>by rw [Below.heap_alloc _ _ _ (by exact hk)]; rfl⟩
 obtain⟨A2,hA2⟩: ∃A2,A2=zrq R0 (i*2) (offR cur2 0 1):=⟨_,rfl⟩
 have hl2:A2.length=G*2:=by rw [hA2,zrr (by rw [hyl,hrl]; omega),hrl]
 have hcpA: ∀(W:World),W.heap=W1.heap-> ∀(ty:TypeId) (dc:Nat),(Builtin.copy_ #[63,63] ty #[.slice (some ⟨w.heap.size,i*2,none⟩) (n+1-i) dc, .slice (some ⟨g2,0,none⟩) 1 c2]).run Tryz.prog W= .ok (goInt 1) (W.setRow w.heap.size A2.toArray):=fun W hW ty dc=>by
  have k1:W.heap[w.heap.size]? =some (.cells R0.toArray 133 (0,0)):=by rw [hW]; exact hn1
  have k2:W.heap[g2]? =some (.cells cur2 133 (0,0)):=by rw [hW]; exact hn3
  rw [hA2]
  exact zrt W _ _ ty 133 ie i1 w.heap.size (i*2) (n+1-i) dc ⟨g2,0,none⟩ 1 c2 R0.toArray 133 (offR cur2 0 1) 1 hu k1 (by simp only [Nat.min_def]; split<;>omega) (by rw [hyl,i3])
   (fun j v hj=>by rw [Addr.add_lit,zry k2]; exact zrS hj) (by rw [hyl]; simp only [List.size_toArray,hrl]; omega) h1y
 obtain⟨A3,hA3⟩: ∃A3,A3=zrq A2 ((i+1)*2) (offR cur i n):=⟨_,rfl⟩
 have hcpB: ∀(W:World),W.heap=(W1.setRow w.heap.size A2.toArray).heap-> ∀(ty:TypeId) (dc sc:Nat),(Builtin.copy_ #[63,63] ty #[.slice (some ⟨w.heap.size,(i+1)*2,none⟩) (n-i) dc, .slice (some ⟨g,i*2,none⟩) (n-i) sc]).run Tryz.prog W= .ok (goInt ((n-i:Nat):Int)) (W.setRow w.heap.size A3.toArray):=fun W hW ty dc sc=>by
  have k1:W.heap[w.heap.size]? =some (.cells A2.toArray 133 (0,0)):=by rw [hW]; exact setRow_heap W1 _ _ _ _ _ hn1
  have k2:W.heap[g]? =some (.cells cur 133 (0,0)):=by rw [hW,setRow_other W1 w.heap.size g _ (Nat.ne_of_lt hgw)]; exact hn2
  rw [hA3]
  exact zrt W _ _ ty 133 ie i1 w.heap.size ((i+1)*2) (n-i) dc ⟨g,i*2,none⟩ (n-i) sc A2.toArray 133 (offR cur i n) (n-i) hu k1 (by simp only [Nat.min_def]; split<;>omega) (by rw [hol,i3])
   (fun j v hj=>by rw [Addr.add_lit,zry k2]; exact zrS hj) (by rw [hol]; simp only [List.size_toArray,hl2]; omega) h1c
 have fin: ∀(W:World),w.grownBy W none->W.heap[w.heap.size]? =some (.cells A3.toArray 133 (0,0))-> ∃(G':Nat) (Z':List Value),(Ending.returned (.slice (some ⟨w.heap.size,0,none⟩) (n+1) G):Ending)= .returned (.slice (some ⟨w.heap.size,0,none⟩) (n+1) G')/\w.grownBy W none/\n+1<=G'/\G'<=maxLen/\Z'.length=(G'-i)*2/\W.heap[w.heap.size]? =some (.cells (zrq (zrq (cur.toList.take (i*2)++Z') (i*2) (offR cur2 0 1)) ((i+1)*2) (offR cur i n)).toArray 133 (0,0)):=fun W h1 h2=>
  ⟨G,Z,rfl,h1,hGn,hGm,hZl,by rw [h2,hA3,hA2,hR0]⟩
 have fin2: ∀(W:World),w.grownBy W none->W.heap[w.heap.size]? =some (.cells A2.toArray 133 (0,0))->w.grownBy (W.setRow w.heap.size A3.toArray) none/\(W.setRow w.heap.size A3.toArray).heap[w.heap.size]? =some (.cells A3.toArray 133 (0,0)):=fun W h1 h2=>
  ⟨⟨h1.os,h1.tape,h1.output,by simp [World.setRow]; exact h1.size,fun k hk hne=>by rw [setRow_other W _ k _ (Nat.ne_of_lt hk)]; exact h1.block k hk hne⟩,setRow_heap W _ _ _ _ _ h2⟩
 have hgrA:w.grownBy (W1.setRow w.heap.size A2.toArray) none:=⟨hgr1.os,hgr1.tape,hgr1.output,by simp [World.setRow]; exact hgr1.size,fun k hk hne=>by rw [setRow_other W1 _ k _ (Nat.ne_of_lt hk)]; exact hgr1.block k hk hne⟩
 have hnA:(W1.setRow w.heap.size A2.toArray).heap[w.heap.size]? =some (.cells A2.toArray 133 (0,0)):=setRow_heap W1 _ _ _ _ _ hn1
 have hw1:IntKind.i64.wrap ((i:Int)+1)=(i:Int)+1:=by rw [IntKind.wrap_i64]; omega
 have hw2:IntKind.i64.wrap ((n:Int)+1)=(n:Int)+1:=by rw [IntKind.wrap_i64]; omega
 have hw3:IntKind.i64.wrap ((n:Int)+1-(i:Int))=(n:Int)+1-(i:Int):=by rw [IntKind.wrap_i64]; omega
 have hz2: ¬((i:Int)=(n:Int)):=by omega
 have hz3:(cap:Int)< (n:Int)+1:=by omega
 have hb1:(0:Int)<=(i:Int)+1:=by omega
 have hin:i<=n:=by omega
 have htn:((i:Int)+1).toNat=i+1:=by omega
 have hGi: ¬(G=i):=by omega
 have hGim: ¬(G=i+1):=by omega
 have hci: ¬(cap=i):=by omega
 have hb3:(i:Int)<=(n:Int):=by omega
 obtain⟨B2,hB2⟩: ∃B2,B2=A2.toArray:=⟨_,rfl⟩
 obtain⟨B3,hB3⟩: ∃B3,B3=A3.toArray:=⟨_,rfl⟩
 obtain⟨N0,hN0⟩: ∃N0,N0=w.heap.size:=⟨_,rfl⟩
 rw [<-hB2] at hcpA hcpB hgrA hnA fin2
 rw [<-hB3] at hcpB fin fin2
 rw [<-hN0] at hrz hcpA hcpB fin fin2 hgrA hnA |-
 try clear hkk hik hold hG hrl hr0 hR0 hW1 hn1 hn2 hn3 hgr1 hA2 hA3 hl2 hB2 hB3 i1 i2 i3 i4 i5 hol hyl h1c h1y hsz hsz2 hZ hZl hzc hu hui hN0
 go_enter Tryz.func198,Tryz.ntmps198
 go_wp2_with (first
  |(at_builtin; refine Lib.wpList_append_run _ rfl _ _ _ _ rfl _ _ rfl rfl _ _ (hrz _) ?_)
  |(refine zrv _ rfl _ _ 63 63 rfl _ _ rfl rfl (hcpA W1 rfl _ _) ?_))
 go_region_law (refine zrD rfl _ _ 63 63 rfl _ _ (by simp [Act.eval,Act.put]) (by simp [Act.eval,Act.put]) (hcpB (W1.setRow N0 B2).drew rfl 3 (G-(i+1)) (cap-i)) ?_)
 go_wp2
 go_ret
 exact fin _ (fin2 _ (zrC hgrA) hnA).1 (fin2 _ (zrC hgrA) hnA).2
end
section
theorem zsz (P Y Z X:List Value):zrq (zrq (P++Z) P.length Y) (P.length+Y.length) X=P++Y++X++(P++Y++Z.drop Y.length).drop (P.length+Y.length+X.length):=by
 have e1:zrq (P++Z) P.length Y=P++Y++Z.drop Y.length:=by
  unfold zrq
  rw [List.take_left',List.drop_append,List.drop_of_length_le (by omega),Nat.add_sub_cancel_left,List.nil_append]
  rfl
 rw [e1]
 unfold zrq
 rw [show (P++Y++Z.drop Y.length).take (P.length+Y.length)=P++Y from List.take_left' (by rw [List.length_append])]
theorem zsA (P Q S X Y:List Value) (h:Q.length=Y.length):zrq (zrq (P++Q++S) (P.length+Y.length) X) P.length Y=P++Y++X++(P++Q++S).drop (P.length+Y.length+X.length):=by
 have e1:zrq (P++Q++S) (P.length+Y.length) X=P++Q++X++(P++Q++S).drop (P.length+Y.length+X.length):=by
  unfold zrq
  rw [show (P++Q++S).take (P.length+Y.length)=P++Q from List.take_left' (by rw [List.length_append,h])]
 rw [e1]
 generalize (P++Q++S).drop (P.length+Y.length+X.length)=T
 unfold zrq
 rw [show (P++Q++X++T).take P.length=P by rw [List.append_assoc,List.append_assoc]; exact List.take_left' rfl,show (P++Q++X++T).drop (P.length+Y.length)=X++T by rw [List.append_assoc]; exact List.drop_left' (by rw [List.length_append,h])]
 simp only [List.append_assoc]
theorem zsJ (l:List Value) (a b:Nat):l=l.take a++(l.drop a).take b++l.drop (a+b):=by
 rw [List.append_assoc, <-List.drop_drop,List.take_append_drop,List.take_append_drop]
theorem insM:Insr Tryz.prog 198 133 2:=by
 refine⟨enters_of Tryz.func198 (by kernel_rfl) rfl,fun w base i n v u xs ys hbw hx hy hd h1x h1y hi hn=> ?_⟩
 by_cases he:i=n
 ·subst he
  have hxl:=hx.1
  rw [List.take_of_length_le (by omega),List.drop_of_length_le (by omega),List.append_nil]
  exact zsC w base i v u xs ys hbw hx hy h1y hn
 ·obtain⟨g,cap,cur,rfl,hbg,hg,hnc,hcm,hsz,htk⟩:=zrR hx (by omega)
  obtain⟨g2,c2,cur2,rfl,_,hg2,hc2,_,hsz2,htk2⟩:=zrR hy (by omega)
  have hne:g2≠g:=fun e=>hd g rfl (by rw [e]; rfl)
  have e2:offR cur2 0 1=ys:=by unfold offR; rw [<-htk2]; rfl
  have e1:offR cur i n=xs.drop (i*2):=by
   unfold offR
   rw [<-htk,List.drop_take]
   congr 1
   omega
  have hP:xs.take (i*2)=cur.toList.take (i*2):=by
   rw [<-htk,List.take_take,Nat.min_eq_left (by omega)]
  have hPl:(xs.take (i*2)).length=i*2:=by rw [List.length_take,hx.1]; omega
  have hYl:ys.length=2:=hy.1
  have hXl:(xs.drop (i*2)).length=(n-i)*2:=by rw [List.length_drop,hx.1]; omega
  have h1X: ∀x∈offR cur i n,x.oneCell'=true:=fun x hx'=>by rw [e1] at hx'; exact h1x x (List.mem_of_mem_drop hx')
  have h1Y: ∀x∈offR cur2 0 1,x.oneCell'=true:=fun x hx'=>by rw [e2] at hx'; exact h1y x hx'
  have hlen:(xs.take (i*2)++ys++xs.drop (i*2)).length=(n+1)*2:=by
   rw [List.length_append,List.length_append,hPl,hYl,hXl]
   omega
  by_cases hroom:n+1<=cap
  ·refine(zsn w g cap i n g2 c2 cur cur2 hg hg2 hne (by omega) hroom (by unfold maxLen at hcm; omega) hsz hsz2 hc2 h1X h1Y hn).mono ?_
   rintro ex w' ⟨rfl,h1,h2⟩
   refine⟨_,rfl,h1,fun k hk=> .inl hk,hlen, .inr ⟨g,cap,_,rfl,hbg,h2,hroom,hcm, ?_, ?_⟩⟩
   ·simp only [List.size_toArray]
    rw [zrr,zrr,Array.length_toList,hsz]
    ·rw [e1,hXl,Array.length_toList,hsz]; omega
    ·rw [zrr,e2,hYl,Array.length_toList,hsz]
     ·omega
     ·rw [e1,hXl,Array.length_toList,hsz]; omega
   ·rw [e1,e2]
    have hc:=zsJ cur.toList (i*2) 2
    rw [<-hP] at hc
    have hQ:((cur.toList.drop (i*2)).take 2).length=ys.length:=by rw [List.length_take,List.length_drop,Array.length_toList,hsz,hYl]; omega
    have:=zsA (xs.take (i*2)) ((cur.toList.drop (i*2)).take 2) (cur.toList.drop (i*2+2)) (xs.drop (i*2)) ys hQ
    rw [<-hc,hPl,hYl] at this
    rw [show (i+1)*2=i*2+2 by omega]
    show (List.take _ (zrq _ _ _))=_
    rw [this]
    exact List.take_left' hlen
  ·refine(zso w g cap i n g2 c2 cur cur2 hg hg2 (by omega) hnc (by omega) hsz hsz2 hc2 h1X h1Y hn).mono ?_
   rintro ex w' ⟨G,Z,rfl,h1,h2,h3,h4,h5⟩
   refine⟨_,rfl,⟨h1.os,h1.tape,h1.output,h1.size,fun k hk _=>h1.block k hk (by simp)⟩,fun k hk=> .inr (by cases hk; exact Nat.le_refl _),hlen, .inr ⟨w.heap.size,G,_,rfl,hbw,h5,h2,h3, ?_, ?_⟩⟩
   ·simp only [List.size_toArray]
    have hl0:(cur.toList.take (i*2)++Z).length=G*2:=by rw [List.length_append,h4,List.length_take,Array.length_toList,hsz]; omega
    rw [zrr,zrr,hl0]
    ·rw [e2,hYl,hl0]; omega
    ·rw [zrr,e1,hXl,hl0]
     ·omega
     ·rw [e2,hYl,hl0]; omega
   ·rw [e1,e2, <-hP]
    have:=zsz (xs.take (i*2)) ys Z (xs.drop (i*2))
    rw [hPl,hYl] at this
    rw [show (i+1)*2=i*2+2 by omega]
    show (List.take _ (zrq _ _ _))=_
    rw [this]
    exact List.take_left' hlen
end
section
theorem zsf (env:Env) (es:List (List AV)) (hl:es.length<=4096):Con Tryz.prog env 197 [.seq 2 es] (.own 133 2 es):=by
 cases es with
 | nil=>
   refine Con.empty fun A cap=> ?_
   cases A with
   | none=>
     refine zaj Tryz.func197 rfl Tryz.call197 (by rw [Tryz.ntmps197]; simp) ?_
     rw [Tryz.ntmps197,Tryz.results197]
     repeat refine st0 ?_
     (refine zak ?_; refine⟨_,(by show (zaz _ _ _).run _=some _; simp only [go_sem]; rfl), ?_⟩)
     exact RStr.own_nil _ _ (by decide)
   | some A=>
     refine zaa Tryz.func197 rfl Tryz.call197 (by rw [Tryz.ntmps197]; simp) ?_
     rw [Tryz.ntmps197,Tryz.results197]
     repeat refine st0 ?_
     exact aR0
 | cons d l=>
   have g1:Fits ((l.length+1)) 32:=zah (by simpa using hl) (by omega)
   refine zaa Tryz.func197 rfl Tryz.call197 (by rw [Tryz.ntmps197]; simp) ?_
   rw [Tryz.ntmps197,Tryz.results197]
   have F:=g1
   repeat refine st ?_
   exact aR
theorem zr8 (env:Env) (x:MemD) (h:Int) (hx:0<=x.1/\x.1<=1000000) (hh:0<=h/\h<=1000000):Con Tryz.prog env 196 [.agg (mmAV x),I h] (I (x.1-h)):=by
 have q:IntKind.i64.wrap (x.1-h)=x.1-h:=IntWalk.i64_in _ (by omega)
 unfold mmAV
 refine zaa Tryz.func196 rfl Tryz.call196 (by rw [Tryz.ntmps196]; simp) ?_
 rw [Tryz.ntmps196,Tryz.results196]
 have F:=q
 repeat refine st ?_
 exact aR
theorem zrW (env:Env) (l:List MemD) (x:Int) (hs:Srt l) (hz: ∀m∈l,0<=m.1/\m.1<=1000000) (hh:0<=x/\x<=1000000) (hl:l.length<=1000000):Con Tryz.prog env 195 [memsAV l,I x, .lit (.func (.func 196) #[] #[])] (.tuple [I (posM l x),B (isM l x)]):=by
 have hle:=zr1 x l
 have hp:=fun {j:Nat} {y:MemD} (hy:l[j]? =some y)=>zsk (h:=x) hs hy
 have hI:isM l x=match l[posM l x]? with | some y=>y.1==x | none=>false:=rfl
 generalize isM l x=b at*
 generalize posM l x=p at*
 refine zaa Tryz.func195 rfl Tryz.call195 (by rw [Tryz.ntmps195]; simp) ?_
 rw [Tryz.ntmps195,Tryz.results195]
 repeat refine st0 ?_
 refine zab (D:=Nat×Nat) (fun d _=>[(0,memsAV l),(1,I x),(2, .lit (.func (.func 196) #[] #[])),(8,I l.length),(9,I d.1),(10,I d.2)]) (fun _ _=>[]) (fun d _ _=>d.1<=p/\p<=d.2/\d.2<=l.length) (fun d=>d.2-d.1) (0,l.length) ?_ ?_ ?_ ?_
 ·exact⟨Nat.zero_le _,hle,Nat.le_refl _⟩
 ·(simp only [go_sem])
  try rfl
 ·(simp only [go_sem])
 rintro⟨i,j⟩ ws esc ⟨h1,h2,h3⟩
 simp only at h1 h2 h3
 by_cases hlt:i<j
 ·have g1:=nlt hlt
  have hm:(i+j)/2<l.length:=by omega
  obtain⟨y,hy⟩: ∃y,l[(i+j)/2]? =some y:=⟨l[(i+j)/2],List.getElem?_eq_getElem hm⟩
  have hyp:=hp hy
  have f1:=zr8 env y x (hz y (List.mem_of_getElem? hy)) hh
  have g2:IntKind.i64.wrap ((i:Int)+(j:Int))=((i+j:Nat):Int):=by rw [zbU (by omega) (by omega)]; omega
  have g3:IntKind.u64.wrap ((i+j:Nat):Int)=((i+j:Nat):Int):=IntWalk.u64_in _ (by omega)
  have g4:IntKind.i64.wrap (((i+j:Nat):Int).fdiv (2^min 1 64))=(((i+j)/2:Nat):Int):=by
   rw [show ((i+j:Nat):Int).fdiv (2^min 1 64)=(((i+j)/2:Nat):Int) from(Int.ofNat_fdiv (i+j) 2).symm,zbU (by omega) (by omega)]
  have g5:(((i+j)/2:Nat):Int)< (l.length:Int):=by omega
  have g6:=zac (k:=(i+j)/2) (n:=l.length) hm (by omega)
  generalize hmm:(i+j)/2=mm at*
  unfold mmAV at f1
  by_cases hb:y.1<x
  ·have q:y.1-x<0:=by omega
   have:=hyp.2 hb
   have F:=ai mmAV.eq_1<|ai g1<|ai g2<|ai g3<|ai g4<|ai g5<|ai g6<|ai hy<|q
   repeat refine st ?_
   refine oC (callOf_tmp rfl (by simp only [go_sem,F]; exact iR)) (f1) (by simp only [go_sem,F]; exact iR) (by simp only [go_sem,F]; exact⟨rfl,rfl⟩) ?_
   repeat refine st ?_
   refine⟨(mm+1,j),⟨?_, ?_, ?_⟩, ?_, ?_, ?_⟩
   ·simp only; omega
   ·exact h2
   ·exact h3
   ·(simp only [go_sem,F])
   ·(simp only [go_sem,F])
   ·simp only; omega
  ·have q: ¬y.1-x<0:=by omega
   have: ¬mm<p:=fun h=>hb (hyp.1 h)
   have F:=ai mmAV.eq_1<|ai g1<|ai g2<|ai g3<|ai g4<|ai g5<|ai g6<|ai hy<|q
   repeat refine st ?_
   refine oC (callOf_tmp rfl (by simp only [go_sem,F]; exact iR)) (f1) (by simp only [go_sem,F]; exact iR) (by simp only [go_sem,F]; exact⟨rfl,rfl⟩) ?_
   repeat refine st ?_
   refine⟨(i,mm),⟨?_, ?_, ?_⟩, ?_, ?_, ?_⟩
   ·exact h1
   ·simp only; omega
   ·simp only; omega
   ·(simp only [go_sem,F])
   ·(simp only [go_sem,F])
   ·simp only; omega
 ·obtain rfl:i=j:=by omega
  obtain rfl:i=p:=by omega
  have g1: ¬(i:Int)< (i:Int):=by omega
  by_cases hi:i<l.length
  ·have g2:=nlt hi
   obtain⟨y,hy⟩: ∃y,l[i]? =some y:=⟨l[i],List.getElem?_eq_getElem hi⟩
   have f1:=zr8 env y x (hz y (List.mem_of_getElem? hy)) hh
   rw [hy] at hI
   have hI:b=(y.1==x):=hI
   unfold mmAV at f1
   by_cases he:y.1=x
   ·have q:(y.1-x==0)=true:=by simp; omega
    rw [hI,show (y.1==x)=true by simpa using he]
    have F:=ai mmAV.eq_1<|ai g1<|ai g2<|ai hy<|q
    repeat refine st ?_
    refine oC (callOf_tmp rfl (by simp only [go_sem,F]; exact iR)) (f1) (by simp only [go_sem,F]; exact iR) (by simp only [go_sem,F]; exact⟨rfl,rfl⟩) ?_
    repeat refine st ?_
    exact aR
   ·have q:(y.1-x==0)=false:=by simp; omega
    rw [hI,show (y.1==x)=false by simpa using he]
    have F:=ai mmAV.eq_1<|ai g1<|ai g2<|ai hy<|q
    repeat refine st ?_
    refine oC (callOf_tmp rfl (by simp only [go_sem,F]; exact iR)) (f1) (by simp only [go_sem,F]; exact iR) (by simp only [go_sem,F]; exact⟨rfl,rfl⟩) ?_
    repeat refine st ?_
    exact aR
  ·have g2: ¬(i:Int)< (l.length:Int):=by omega
   rw [List.getElem?_eq_none (by omega)] at hI
   have hI:b=false:=hI
   rw [hI]
   have F:=ai g1<|g2
   repeat refine st ?_
   exact aR
theorem zsH (l:List MemD) (p:Nat) (m:MemD):zrJ p (mmAV m) (l.map mmAV)=(l.take p++m::l.drop p).map mmAV:=by
 unfold zrJ
 rw [List.map_append,List.map_cons,List.map_take,List.map_drop]
theorem zsj (env:Env) (l:List MemD) (m:MemD) (hs:Srt l) (hz: ∀m∈l,0<=m.1/\m.1<=1000000) (hh:0<=m.1/\m.1<=1000000) (hl:l.length<=4000):Con Tryz.prog env 160 [memsAV l, .agg (mmAV m)] (.own 133 2 ((putM l m).map mmAV)):=by
 have f0:=zrW env l m.1 hs hz hh (by omega)
 have f1:=zsf env (l.map mmAV) (by rw [List.length_map]; omega)
 cases hb:isM l m.1 with
 | true=>
   rw [hb] at f0
   have hlt:=zsK hb
   rw [zr6 hb]
   generalize posM l m.1=p at*
   have q0:=nlt hlt
   have hset:(l.map mmAV).set p [I m.1, .seq 1 (m.2.map intAV)]=(l.set p m).map mmAV:=by rw [List.map_set]; rfl
   obtain⟨y,hy⟩: ∃y,l[p]? =some y:=⟨l[p],List.getElem?_eq_getElem hlt⟩
   refine zaa Tryz.func160 rfl Tryz.call160 (by rw [Tryz.ntmps160]; simp) ?_
   rw [Tryz.ntmps160,Tryz.results160]
   have F:=ai mmAV.eq_1<|ai q0<|ai hset<|hy
   repeat (first | refine st ?_ | refine cC f0 ?_ | refine cC f1 ?_)
   exact aR
 | false=>
   rw [hb] at f0
   rw [zr7 hb, <-zsH]
   have hle:=zr1 m.1 l
   generalize posM l m.1=p at*
   refine zaa Tryz.func160 rfl Tryz.call160 (by rw [Tryz.ntmps160]; simp) ?_
   rw [Tryz.ntmps160,Tryz.results160]
   have F:=mmAV.eq_1
   repeat (first | refine st ?_ | refine cC f0 ?_ | refine cC f1 ?_)
   refine zst 24 27 rfl (row:=⟨2,l.map mmAV,133,true⟩) (row2:=⟨2,[mmAV m],133,true⟩) (i:=p) insM (Nat.succ_ne_zero 1) rfl rfl rfl rfl rfl (by decide) (by rw [List.length_map]; exact hle) (by rw [List.length_map]; omega) (by simp only [go_sem]; exact iR) (by simp only [go_sem]; exact iR) (by simp only [go_sem]; exact iR) (by simp only [go_sem]; exact iR) (by simp only [go_sem]; exact iR) (by simp only [go_sem]; exact iR) iR ?_
   repeat refine st ?_
   exact aR
end
section
def okM (c:ChD) (l:List MemD):Prop:=Srt l/\ ∀m∈l,inZ c m.1=true
theorem zsF {c:ChD} {l:List MemD} {k:Nat} {v:List Int} (hk:k<c.states.length) (h:okM c l):okM c (putM l ((k:Int),v)):=
 ⟨putM_srt h.1,fun p hp=>by
  rcases (putM_mem h.1).1 hp with rfl | ⟨h1,_⟩
  ·exact zaM.2 hk
  ·exact h.2 p h1⟩
theorem zrw {c:ChD} {l:List MemD} (h:okM c l):l.length<=c.states.length:=by
 have hn:(l.map fun m=>m.1.toNat).Nodup:=by
  refine List.pairwise_map.2 (h.1.imp_of_mem fun {a b} ha hb hab=> ?_)
  have:=(zag.1 (h.2 a ha)).1
  have:=(zag.1 (h.2 b hb)).1
  omega
 have:=hn.length_le_of_subset (l₂:=List.range c.states.length) fun x hx=>by
  obtain⟨m,hm,rfl⟩:=List.mem_map.1 hx
  have:=zag.1 (h.2 m hm)
  exact List.mem_range.2 (by omega)
 simpa using this
theorem zsL {c:ChD} (hc:Right c) {l:List MemD} (h:okM c l): ∀m∈l,0<=m.1/\m.1<=1000000:=fun m hm=>by
 have:=zag.1 (h.2 m hm)
 have:=hc.few
 omega
theorem zrO {c:ChD} {mem:List MemD} (h:zc3 c mem=true):okM c mem:=by
 obtain⟨h1,h2⟩:=zkf h
 refine⟨h1,fun m hm=> ?_⟩
 obtain⟨k,s,e,hs,_⟩:=memB_of (h2 m hm)
 rw [e]
 exact zaM.2 (List.getElem?_eq_some_iff.1 hs).1
theorem zsB {c:ChD} {act:List Int} {i:Int} (h:manyI act (kidsL c i true)=1): ∃(p a:Nat),(kidsL c i true)[p]? =some a/\lastKid c act i=[(a:Int)]/\ ∀(q y:Nat),(kidsL c i true)[q]? =some y->act.contains (y:Int)=decide (q=p):=by
 obtain⟨k,hk,hka,hl,hf⟩:=kid_same h
 obtain⟨a,ha,rfl⟩:=List.mem_map.1 hk
 obtain⟨p,hp⟩:=List.mem_iff_getElem?.1 ha
 refine⟨p,a,hp,hl,fun q y hy=> ?_⟩
 by_cases e:q=p
 ·subst e
  rw [hp] at hy
  cases hy
  rw [decide_eq_true rfl]
  exact List.contains_iff_mem.2 hka
 ·rw [decide_eq_false e]
  refine Bool.eq_false_iff.2 fun hc=>e ?_
  have hm:(y:Int)∈(kidZ c i).filter fun k=>act.contains k:=List.mem_filter.2 ⟨List.mem_map.2 ⟨y,List.mem_of_getElem? hy,rfl⟩,hc⟩
  rw [hf] at hm
  have hya:(y:Int)=(a:Int):=List.mem_singleton.1 hm
  have hya:y=a:=by omega
  subst hya
  exact(List.getElem?_inj (List.getElem?_eq_some_iff.1 hy).1 (zcg c i true)).1 (hy.trans hp.symm)
theorem zr9 {c:ChD} {act gone:List Int} {o:List MemD} {j:Nat} {x:Int} (h:gone[j]? =some x):remTo c act gone o (j+1)=if zaL c x=true then memTo_ c act x (remTo c act gone o j) (memL c x) (memL c x).length else remTo c act gone o j:=by
 unfold remTo
 exact zdK _ _ h
theorem zr4 {c:ChD} {act:List Int} {i:Int} {o:List MemD} {M:List Nat} {m h:Nat} (hm:M[m]? =some h):memTo_ c act i o M (m+1)=putM (memTo_ c act i o M m) ((h:Int),newV c act i h):=by
 unfold memTo_
 exact zdK _ _ hm
def zrM (a:Nat) (p q:Nat):AV:=if q<=p then nilS else .seq 1 [zae a]
theorem zrV (env:Env) (c:ChD) (h:Full c) (hs:Small c) (act gone:List Int) (mem:List MemD) (hla:act.length<=4000) (hlg:gone.length<=1000000) (hlb:lgB c act=true) (hgo: ∀x∈gone,x∈act) (hm:zc3 c mem=true):Con Tryz.prog env 102 [zai c, .seq 1 (act.map intAV), .seq 1 (gone.map intAV),memsAV mem] (memsAV (remL c act gone mem)):=by
 have f0:=zaG env c hs
 have hfew:=h.few
 have hok:=zrO hm
 have hml:=zrw hok
 have f1:=zse env mem (by omega) (fun m hm'=>by have:=(znD h hm m hm').2; omega)
 have hlgc:=lg_out hlb
 show Con _ _ _ _ (memsAV (remTo c act gone mem gone.length))
 unfold zai at f0 |-
 refine zaa Tryz.func102 rfl Tryz.call102 (by rw [Tryz.ntmps102]; simp) ?_
 rw [Tryz.ntmps102,Tryz.results102]
 repeat (first | refine st0 ?_ | refine cC0 f0 ?_ | refine cC0 f1 ?_)
 refine zpO (Turned.frozen 21 10 ⟨2,mem.map mmAV,133,true⟩ rfl (Nat.succ_ne_zero 1) (by simp only [go_sem]) (by simp only [go_sem])) ?_
 refine zab (D:=Nat) (fun j vs=>[(0, .ref 9 [tabCells c] 0 0),(1, .seq 1 (act.map intAV)),(9, .loc 9 (vs 9) 0 0),(10,memsAV (remTo c act gone mem j)),(22, .seq 1 (gone.map intAV)),(23,I gone.length),(24,I j)]) (fun _ _=>[(9,⟨5,[chAV c],26,false⟩)]) (fun j _ _=>j<=gone.length/\okM c (remTo c act gone mem j)) (fun j=>gone.length-j) 0 ?_ ?_ ?_ ?_
 ·exact⟨Nat.zero_le _,hok⟩
 ·(simp only [go_sem])
  try rfl
 ·have F:=chAV.eq_1
  (simp only [go_sem,F])
  try rfl
 rintro j ws esc ⟨hj,hO⟩
 by_cases hlt:j<gone.length
 ·obtain⟨x,hx⟩: ∃x,gone[j]? =some x:=⟨gone[j],List.getElem?_eq_getElem hlt⟩
  have q1:=nlt hlt
  have q2:=zac hlt (by omega)
  have hxa:=hgo x (List.mem_of_getElem? hx)
  obtain⟨s0,hs0,hz, -, -,hone, -⟩:=hlgc.of hxa
  obtain⟨k,s,rfl,hsk,hat⟩:=zb0 hz
  obtain rfl:s0=s:=by rw [hs0] at hat; cases hat; rfl
  have hk:=(List.getElem?_eq_some_iff.1 hsk).1
  have q3:((k:Nat):Int)< (c.states.length:Int):=by omega
  have f2:=zlJ env c h k
  have hpz:=zcF hs0
  have hrs:=zr9 (c:=c) (act:=act) (o:=mem) hx
  unfold zai at f2
  generalize remTo c act gone mem j=o at*
  by_cases hk1:s0.kind=1
  ·have b1:(s0.kind==1)=true:=by simp [hk1]
   rw [b1] at hpz
   rw [hpz,if_pos rfl] at hrs
   have hML: ∀y∈memL c (k:Int),∃sy,c.states[y]? =some sy/\sy.parent=(k:Int)/\zat sy=true:=fun y hy=>by
    obtain⟨sy,e1,_,e3,e4⟩:=memL_iff.1 hy
    exact⟨sy,e1,e3,e4⟩
   have hMl:(memL c (k:Int)).length<=1000000:=by
    unfold memL
    have:=List.length_filter_le (memP c (k:Int)) (List.range c.states.length)
    rw [List.length_range] at this
    omega
   have f3:=zr5 env c h.toRight act hla (k:Int)
   have f4:=zsq env c h (underL c act (k:Int)) (Nat.le_trans (List.length_filter_le ..) hla) (fun y hy=>by
    have hy:=(List.mem_filter.1 hy).1
    obtain⟨_,_,hz,_⟩:=hlgc.of hy
    exact hz)
   have f5:=zbI env c h (k:Int)
   rw [if_pos (.inr hz)] at f5
   have hone:=hone hk1
   generalize memL c (k:Int)=M at*
   unfold zai at f3 f4 f5
   have F:=ai chAV.eq_1<|ai stAV.eq_1<|ai hx<|ai q1<|ai q2<|ai q3<|ai hsk<|ai b1<|bneA
   repeat (first | refine st ?_ | refine cC f2 ?_)
   refine zab (D:=Nat) (fun m vs=>[(0, .ref 9 [tabCells c] 0 0),(1, .seq 1 (act.map intAV)),(9, .loc 9 (vs 9) 0 0),(10,memsAV (memTo_ c act k o M m)),(12,I k),(22, .seq 1 (gone.map intAV)),(23,I gone.length),(24,I j),(37, .row 37 (vs 37)),(38,I M.length),(39,I m)]) (fun _ _=>[(9,⟨5,[chAV c],26,false⟩),(37,⟨1,M.map zae,3,true⟩)]) (fun m _ _=>m<=M.length/\okM c (memTo_ c act k o M m)) (fun m=>M.length-m) 0 ?_ ?_ ?_ ?_
   ·exact⟨Nat.zero_le _,hO⟩
   ·(simp only [go_sem,F])
    try rfl
   ·have F:=chAV.eq_1
    (simp only [go_sem,F])
    try rfl
   rintro m us es ⟨hml2,hO2⟩
   by_cases hlt2:m<M.length
   ·obtain⟨y,hy⟩: ∃y,M[m]? =some y:=⟨M[m],List.getElem?_eq_getElem hlt2⟩
    have p1:=nlt hlt2
    have p2:=zac hlt2 (by omega)
    obtain⟨sy,hsy,hpar,hmy⟩:=hML y (List.mem_of_getElem? hy)
    have hyl:=(List.getElem?_eq_some_iff.1 hsy).1
    have p3:((y:Nat):Int)< (c.states.length:Int):=by omega
    have hms:=zr4 (c:=c) (act:=act) (i:=(k:Int)) (o:=o) hy
    have hnv:newV c act (k:Int) y=if sy.kind=5 then innerL c (underL c act (k:Int)) else lastKid c act (k:Int):=by unfold newV; rw [hsy]
    have hO3:=zsF (v:=newV c act (k:Int) y) hyl hO2
    rw [<-hms] at hO3
    have hz2:=zsL h.toRight hO2
    have hl2:=zrw hO2
    generalize memTo_ c act (k:Int) o M m=o2 at*
    by_cases hk5:sy.kind=5
    ·have b5:(sy.kind==5)=true:=by simp [hk5]
     rw [if_pos hk5] at hnv
     rw [hnv] at hms
     have f6:Con Tryz.prog env 160 [memsAV o2, .agg [I (y:Int), .seq 1 ((innerL c (underL c act (k:Int))).map intAV)]] (.own 133 2 ((putM o2 ((y:Int),innerL c (underL c act (k:Int)))).map mmAV)):=zsj env o2 ((y:Int),innerL c (underL c act (k:Int))) hO2.1 hz2 ⟨by simp only; omega,by simp only; omega⟩ (by omega)
     generalize innerL c (underL c act (k:Int))=V at*
     generalize underL c act (k:Int)=U at*
     refine zh8 ?_
     have F:=ai chAV.eq_1<|ai stAV.eq_1<|ai zae.eq_1<|ai hy<|ai hsy<|ai p1<|ai p2<|ai p3<|b5
     repeat (first | refine st ?_ | refine cC f3 ?_ | refine cC f4 ?_ | refine cC f6 ?_)
     refine⟨_,Turned.frozen 76 10 ⟨2,(putM o2 ((y:Int),V)).map mmAV,133,true⟩ rfl (Nat.succ_ne_zero 1) (by simp only [go_sem]) (by simp only [go_sem]),m+1,⟨hlt2,hO3⟩, ?_, ?_,by omega⟩
     ·have F:=hms
      (simp only [go_sem,F])
      try rfl
     ·have F:=chAV.eq_1
      (simp only [go_sem,F])
    ·have b5:(sy.kind==5)=false:=by simpa using hk5
     rw [if_neg hk5] at hnv
     rw [hnv] at hms
     have hkn:kidsL c (k:Int) true≠[]:=by
      have:=(zqw h hsy hmy).2.2.1
      rw [hpar] at this
      exact this
     have hkf:=zbz h.toRight (k:Int) true
     obtain⟨p,a,hp,hlk,hpick⟩:=zsB (hone hkn)
     rw [hlk] at hms
     have f6:Con Tryz.prog env 160 [memsAV o2, .agg [I (y:Int), .seq 1 [zae a]]] (.own 133 2 ((putM o2 ((y:Int),[(a:Int)])).map mmAV)):=zsj env o2 ((y:Int),[(a:Int)]) hO2.1 hz2 ⟨by simp only; omega,by simp only; omega⟩ (by omega)
     generalize kidsL c (k:Int) true=K at*
     refine zh8 ?_
     have F:=ai chAV.eq_1<|ai stAV.eq_1<|ai zae.eq_1<|ai hy<|ai hsy<|ai p1<|ai p2<|ai p3<|b5
     repeat (first | refine st ?_ | refine cC f5 ?_)
     refine zab (D:=Nat) (fun q vs=>[(0, .ref 9 [tabCells c] 0 0),(1, .seq 1 (act.map intAV)),(9, .loc 9 (vs 9) 0 0),(10,memsAV o2),(12,I k),(14,I y),(15, .loc 15 (vs 15) 0 0),(22, .seq 1 (gone.map intAV)),(23,I gone.length),(24,I j),(37, .row 37 (vs 37)),(38,I M.length),(39,I m),(61, .row 61 (vs 61)),(62,I K.length),(63,I q)]) (fun q _=>[(9,⟨5,[chAV c],26,false⟩),(15,⟨2,[[I y,zrM a p q]],133,false⟩),(37,⟨1,M.map zae,3,true⟩),(61,⟨1,K.map zae,3,true⟩)]) (fun q _ esc=>q<=K.length/\esc 15=false) (fun q=>K.length-q) 0 ?_ ?_ ?_ ?_
     ·exact⟨Nat.zero_le _,by simp only [go_sem]⟩
     ·(simp only [go_sem,F])
      try rfl
     ·have F:=chAV.eq_1
      (simp only [go_sem,F])
      try rfl
     rintro q xs fs ⟨hq,e5⟩
     by_cases hlt3:q<K.length
     ·obtain⟨u,hu⟩: ∃u,K[q]? =some u:=⟨K[q],List.getElem?_eq_getElem hlt3⟩
      have r1:=nlt hlt3
      have r2:=zac hlt3 (by omega)
      have g0:=zb6 env act (u:Int) (by omega)
      rw [hpick q u hu] at g0
      by_cases hqp:q=p
      ·subst hqp
       rw [decide_eq_true rfl] at g0
       obtain rfl:u=a:=by rw [hp] at hu; cases hu; rfl
       have c1:zrM u q q=nilS:=by unfold zrM; rw [if_pos (Nat.le_refl _)]
       have c2:zrM u q (q+1)= .seq 1 [zae u]:=by unfold zrM; rw [if_neg (by omega)]
       refine zh8 ?_
       have F:=ai chAV.eq_1<|ai zae.eq_1<|ai hu<|ai r1<|ai r2<|ai c1<|e5
       repeat (first | refine st ?_ | refine cC g0 ?_)
       refine⟨_,Turned.sees [(71,xs 71+1, .seq 1 [zae u])] (fun z hz=> ?_),q+1,⟨hlt3, ?_⟩, ?_, ?_,by omega⟩
       ·rw [List.mem_singleton.1 hz]
        refine⟨by simp only [go_sem],⟨1,[zae u],3,true⟩,by simp only [go_sem,zae],Nat.succ_ne_zero 0,rfl,rfl⟩
       ·simp only [seenSt,go_sem,e5,List.any_cons,List.any_nil]
       ·(simp only [go_sem,seenSt,zcw,Row.see,AV.see,AV.see.seeL,Option.getD_none])
       ·have F:=ai chAV.eq_1<|ai zae.eq_1<|c2
        (simp only [go_sem,seenSt,zcw,Row.see,AV.see,AV.see.seeL,Option.getD_none,F])
      ·rw [decide_eq_false hqp] at g0
       have c1:zrM a p (q+1)=zrM a p q:=by
        unfold zrM
        by_cases e:q<=p
        ·rw [if_pos (by omega),if_pos e]
        ·rw [if_neg (by omega),if_neg e]
       have F:=ai chAV.eq_1<|ai zae.eq_1<|ai hu<|ai r1<|ai r2<|e5
       repeat (first | refine st ?_ | refine cC g0 ?_)
       refine⟨q+1,⟨hlt3,by simp only [go_sem,e5]⟩, ?_, ?_,by omega⟩
       ·(simp only [go_sem,F])
       ·have F:=ai chAV.eq_1<|ai zae.eq_1<|c1
        (simp only [go_sem,F])
     ·obtain rfl:q=K.length:=by omega
      have r1: ¬(K.length:Int)< (K.length:Int):=by omega
      have c1:zrM a p K.length= .seq 1 [zae a]:=by
       unfold zrM
       rw [if_neg (by have:=(List.getElem?_eq_some_iff.1 hp).1; omega)]
      have F:=ai chAV.eq_1<|ai zae.eq_1<|ai r1<|ai c1<|ai p2<|e5
      repeat (first | refine st ?_ | refine cC f6 ?_)
      refine⟨_,Turned.frozen 76 10 ⟨2,(putM o2 ((y:Int),[(a:Int)])).map mmAV,133,true⟩ rfl (Nat.succ_ne_zero 1) (by simp only [go_sem]) (by simp only [go_sem]),m+1,⟨hlt2,hO3⟩, ?_, ?_,by omega⟩
      ·have F:=hms
       (simp only [go_sem,F])
       try rfl
      ·have F:=chAV.eq_1
       (simp only [go_sem,F])
   ·obtain rfl:m=M.length:=by omega
    have p1: ¬(M.length:Int)< (M.length:Int):=by omega
    rw [<-hrs] at hO2
    have F:=ai p1<|q2
    repeat refine st ?_
    refine⟨j+1,⟨hlt,hO2⟩, ?_, ?_,by omega⟩
    ·have F:=hrs
     (simp only [go_sem,F])
    ·have F:=chAV.eq_1
     (simp only [go_sem,F])
  ·have b1:(s0.kind==1)=false:=by simpa using hk1
   rw [b1] at hpz
   rw [hpz,if_neg Bool.false_ne_true] at hrs
   rw [<-hrs] at hO
   have F:=ai chAV.eq_1<|ai stAV.eq_1<|ai hx<|ai q1<|ai q2<|ai q3<|ai hsk<|ai b1<|bneA
   repeat (first | refine st ?_ | refine cC f2 ?_)
   refine⟨j+1,⟨hlt,hO⟩, ?_, ?_,by omega⟩
   ·have F:=hrs
    (simp only [go_sem,F])
   ·have F:=chAV.eq_1
    (simp only [go_sem,F])
 ·obtain rfl:j=gone.length:=by omega
  have q1: ¬(gone.length:Int)< (gone.length:Int):=by omega
  have F:=q1
  repeat refine st ?_
  exact aR
end
section
/-! As the document says -/
def zrY (c:ChD) (l:List Int) (j:Nat):List Nat:=(List.range j).filter fun i:Nat=>l.contains (i:Int)&&(manyI l (kidsL c i true)==0)
theorem zr0 (env:Env) (c:ChD) (h:Full c) (l:List Int) (hl:l.length<=1000000):Con Tryz.prog env 119 [.agg (chAV c), .seq 1 (l.map intAV)] (.own 3 1 ((rinL c l).map zae)):=by
 have hlen:=h.few
 have fK:=fun(i:Int)=>zbw env c i true (by omega)
 unfold chAV at fK
 show Con _ _ _ _ (.own _ 1 ((zrY c l c.states.length).map zae))
 refine zaa Tryz.func119 rfl Tryz.call119 (by rw [Tryz.ntmps119]; simp) ?_
 rw [Tryz.ntmps119,Tryz.results119]
 have F:=chAV.eq_1
 repeat refine st ?_
 refine zab (D:=Nat) (fun j vs=>[(1, .seq 1 (l.map intAV)),(2, .loc 2 (vs 2) 0 0),(5, .row 7 (vs 7)),(6,I j)]) (fun j _=>[(2,⟨5,[chAV c],26,false⟩),(7,⟨1,(zrY c l j).map zae,3,true⟩)]) (fun j _ esc=>j<=c.states.length/\esc 7=false) (fun j=>c.states.length-j) 0 ?_ ?_ ?_ ?_
 ·exact⟨Nat.zero_le _,rfl⟩
 ·(simp only [go_sem,F])
  try rfl
 ·have F:=chAV.eq_1
  (simp only [go_sem,F])
  try rfl
 rintro j ws esc ⟨hj,e0⟩
 by_cases hlt:j<c.states.length
 ·have q1:=nlt hlt
  have q2:=zac hlt (by omega)
  have f0:=zdF env l (j:Int) hl
  have hn:zrY c l (j+1)=if (l.contains (j:Int)&&(manyI l (kidsL c j true)==0)) then zrY c l j++[j] else zrY c l j:=pfilter_succ (fun i:Nat=>l.contains (i:Int)&&(manyI l (kidsL c i true)==0)) j
  have hle:(zrY c l j).length<=j:=pfilter_len (fun i:Nat=>l.contains (i:Int)&&(manyI l (kidsL c i true)==0)) j
  have hf:Fits ((zrY c l j).length+1) 8:=zah (by omega) (by omega)
  cases hc:l.contains (j:Int) with
  | false=>
    rw [hc] at f0 hn
    rw [Bool.false_and,if_neg Bool.false_ne_true] at hn
    have F:=ai chAV.eq_1<|ai q1<|ai q2<|e0
    repeat (first | refine st ?_ | refine cC f0 ?_)
    refine⟨j+1,⟨hlt,by simp only [go_sem,e0]⟩, ?_, ?_,by omega⟩
    ·(simp only [go_sem,F])
    ·have F:=ai chAV.eq_1<|hn
     (simp only [go_sem,F])
  | true=>
    rw [hc] at f0 hn
    rw [Bool.true_and] at hn
    have e4:=fK (j:Int)
    have hK:=zbz h.toRight j true
    have e5:=ziz env l (kidsL c j true) hl (by omega)
    generalize kidsL c (j:Int) true=K at*
    cases hm:(manyI l K==0) with
    | true=>
      have b3:(((manyI l K:Nat):Int)==0)=true:=by simpa using hm
      rw [hm,if_pos rfl] at hn
      generalize manyI l K=N at*
      have F:=ai chAV.eq_1<|ai q1<|ai q2<|ai e0<|ai b3<|hf
      repeat (first | refine st ?_ | refine cC f0 ?_ | refine cC e4 ?_ | refine cC e5 ?_)
      refine⟨j+1,⟨hlt,by simp only [go_sem,e0]⟩, ?_, ?_,by omega⟩
      ·(simp only [go_sem,F])
      ·have F:=ai chAV.eq_1<|ai zae.eq_1<|hn
       (simp only [go_sem,List.map_append,F])
    | false=>
      have b3:(((manyI l K:Nat):Int)==0)=false:=by
       have:manyI l K≠0:=by simpa using hm
       simp
       omega
      rw [hm,if_neg Bool.false_ne_true] at hn
      generalize manyI l K=N at*
      have F:=ai chAV.eq_1<|ai q1<|ai q2<|ai e0<|b3
      repeat (first | refine st ?_ | refine cC f0 ?_ | refine cC e4 ?_ | refine cC e5 ?_)
      refine⟨j+1,⟨hlt,by simp only [go_sem,e0]⟩, ?_, ?_,by omega⟩
      ·(simp only [go_sem,F])
      ·have F:=ai chAV.eq_1<|hn
       (simp only [go_sem,F])
 ·obtain rfl:j=c.states.length:=by omega
  have q1: ¬(c.states.length:Int)< (c.states.length:Int):=by omega
  have F:=ai chAV.eq_1<|ai q1<|e0
  repeat refine st ?_
  exact aR
end
section
theorem zrZ (c:ChD) (act gone:List Int) (mem:List MemD) (j:Nat):remRTo c act gone mem (j+1)=if (refV c act gone mem j).isEmpty=true then remRTo c act gone mem j else remRTo c act gone mem j++[((j:Int),refV c act gone mem j)]:=by
 unfold remRTo
 rw [List.range_succ,List.filter_append,List.map_append]
 cases he:(refV c act gone mem j).isEmpty<;>simp [he]
theorem zsa (c:ChD) (act gone:List Int) (mem:List MemD) (j:Nat):(remRTo c act gone mem j).length<=j:=by
 unfold remRTo
 rw [List.length_map]
 exact Nat.le_trans (List.length_filter_le ..) (by rw [List.length_range]; exact Nat.le_refl _)
theorem zrP {p:Int->Bool} {K:List Int} {q:Nat} {u:Int} (h:K[q]? =some u):(K.take (q+1)).filter p=if p u=true then(K.take q).filter p++[u] else(K.take q).filter p:=by
 rw [List.take_add_one,h,List.filter_append]
 cases hb:p u<;>simp [hb]
def keptTo (act Z:List Int) (q:Nat):List Int:=(Z.take q).filter fun k=>act.contains k
theorem zsm {act Z:List Int} {q:Nat} {u:Int} (h:Z[q]? =some u):keptTo act Z (q+1)=if act.contains u=true then keptTo act Z q++[u] else keptTo act Z q:=zrP h
theorem zrQ (env:Env) (c:ChD) (h:Full c) (act gone:List Int) (hl:act.length<=1000000) (hz: ∀x∈act,0<=x) (hgl:gone.length<=1000000) (mem:List MemD) (hml:mem.length<=1000000):Con Tryz.prog env 64 [.agg (chAV c), .seq 1 (act.map intAV), .seq 1 (gone.map intAV),memsAV mem] (.own 133 2 ((remR c act gone mem).map mmAV)):=by
 have hlen:=h.few
 have fK:=fun(i:Int)=>zbw env c i true (by omega)
 have fU:=fun(i:Int)=>rUnder30_con env c h.toRight act hl hz i
 have hUl:=fun(i:Int)=>(show (undR c act i).length<=32 from Nat.le_trans (List.length_filter_le ..) (by rw [zdQ]; exact zin h.toRight act))
 have fI:=fun(i:Int)=>zr0 env c h (undR c act i) (by have:=hUl i; omega)
 unfold chAV at fK fU fI
 show Con _ _ _ _ (.own _ 2 ((remRTo c act gone mem c.states.length).map mmAV))
 refine zaa Tryz.func64 rfl Tryz.call64 (by rw [Tryz.ntmps64]; simp) ?_
 rw [Tryz.ntmps64,Tryz.results64]
 have F:=chAV.eq_1
 repeat refine st ?_
 refine zab (D:=Nat) (fun j vs=>[(1, .seq 1 (act.map intAV)),(2, .seq 1 (gone.map intAV)),(3,memsAV mem),(4, .loc 4 (vs 4) 0 0),(9, .row 15 (vs 15)),(10,I j)]) (fun j _=>[(4,⟨5,[chAV c],26,false⟩),(15,⟨2,(remRTo c act gone mem j).map mmAV,133,true⟩)]) (fun j _ esc=>j<=c.states.length/\esc 15=false) (fun j=>c.states.length-j) 0 ?_ ?_ ?_ ?_
 ·exact⟨Nat.zero_le _,rfl⟩
 ·(simp only [go_sem,F])
  try rfl
 ·have F:=chAV.eq_1
  (simp only [go_sem,F])
  try rfl
 rintro j ws esc ⟨hj,e0⟩
 by_cases hlt:j<c.states.length
 ·obtain⟨s,hsk⟩: ∃s,c.states[j]? =some s:=⟨c.states[j],List.getElem?_eq_getElem hlt⟩
  have q1:=nlt hlt
  have q2:=zac hlt (by omega)
  have f0:=za1 env s
  have hn:=zrZ c act gone mem j
  have hle:=zsa c act gone mem j
  have hV:refV c act gone mem j=if zat s=true then(if gone.contains s.parent=true then(if s.kind=5 then zL (rinL c (undR c act s.parent)) else(kidZ c s.parent).filter fun k=>act.contains k) else ofL mem (j:Int)) else []:=by unfold refV; rw [hsk]; rfl
  unfold stAV at f0
  generalize refV c act gone mem j=V at*
  cases hm:zat s with
  | false=>
    rw [hm] at f0 hV
    rw [if_neg Bool.false_ne_true] at hV
    rw [hV] at hn
    rw [if_pos (show ([]:List Int).isEmpty=true from rfl)] at hn
    have F:=ai chAV.eq_1<|ai stAV.eq_1<|ai hsk<|ai q1<|ai q2<|e0
    repeat (first | refine st ?_ | refine cC f0 ?_)
    refine⟨j+1,⟨hlt,by simp only [go_sem,e0]⟩, ?_, ?_,by omega⟩
    ·(simp only [go_sem,F])
    ·have F:=ai chAV.eq_1<|hn
     (simp only [go_sem,F])
  | true=>
    rw [hm] at f0 hV
    rw [if_pos rfl] at hV
    have f1:=zqn env mem (j:Int) hml
    have f2:=zdF env gone s.parent hgl
    have f3:=fU s.parent
    have f4:=fI s.parent
    have f5:=fK s.parent
    have hKl:=zbz h.toRight s.parent true
    have hfa: ∀(u:Int),_:=fun u=>zdF env act u hl
    have hVZ:kidZ c s.parent=zL (kidsL c s.parent true):=rfl
    generalize kidsL c s.parent true=K at*
    rw [hVZ] at hV
    have F:=ai chAV.eq_1<|ai stAV.eq_1<|ai hsk<|ai q1<|e0
    repeat (first | refine st ?_ | refine cC f0 ?_ | refine cC f1 ?_ | refine cC f2 ?_)
    refine zqE (D:=Unit) (fun _ vs=>[(1, .seq 1 (act.map intAV)),(2, .seq 1 (gone.map intAV)),(3,memsAV mem),(4, .loc 4 (vs 4) 0 0),(9, .row 15 (vs 15)),(10,I j),(12, .seq 1 (V.map intAV))]) (fun _ _=>[(4,⟨5,[chAV c],26,false⟩),(15,⟨2,(remRTo c act gone mem j).map mmAV,133,true⟩)]) (fun _ _ esc=>esc 15=false) ?_ ?_
    ·refine zh8 ?_
     cases hg:gone.contains s.parent with
     | false=>
       rw [hg,if_neg Bool.false_ne_true] at hV
       rw [hV]
       have F:=hg
       repeat refine st ?_
       refine⟨_,Turned.refl _,(),by simp only [go_sem,e0], ?_, ?_⟩
       ·(simp only [go_sem,F])
       ·have F:=chAV.eq_1
        (simp only [go_sem,F])
     | true=>
       rw [hg,if_pos rfl] at hV
       by_cases hk5:s.kind=5
       ·have b5:(s.kind==5)=true:=by simp [hk5]
        rw [if_pos hk5] at hV
        rw [hV]
        have F:=ai chAV.eq_1<|ai stAV.eq_1<|ai hg<|b5
        repeat (first | refine st ?_ | refine cC f3 ?_ | refine cC f4 ?_)
        refine⟨_,Turned.frozen 47 12 ⟨1,(rinL c (undR c act s.parent)).map zae,3,true⟩ rfl (Nat.succ_ne_zero 0) (by simp only [go_sem]) (by simp only [go_sem]),(),by simp only [go_sem,e0], ?_, ?_⟩
        ·(simp only [go_sem,ze8])
        ·have F:=chAV.eq_1
         (simp only [go_sem,F])
       ·have b5:(s.kind==5)=false:=by simpa using hk5
        rw [if_neg hk5] at hV
        have F:=ai chAV.eq_1<|ai stAV.eq_1<|ai hg<|b5
        repeat (first | refine st ?_ | refine cC f5 ?_)
        refine zab (D:=Nat) (fun q vs=>[(1, .seq 1 (act.map intAV)),(2, .seq 1 (gone.map intAV)),(3,memsAV mem),(4, .loc 4 (vs 4) 0 0),(9, .row 15 (vs 15)),(10,I j),(12, .row 52 (vs 52)),(13, .row 51 (vs 51)),(14,I q)]) (fun q _=>[(4,⟨5,[chAV c],26,false⟩),(15,⟨2,(remRTo c act gone mem j).map mmAV,133,true⟩),(51,⟨1,K.map zae,3,true⟩),(52,⟨1,(keptTo act (zL K) q).map intAV,3,true⟩)]) (fun q _ esc=>q<=K.length/\esc 15=false/\esc 52=false) (fun q=>K.length-q) 0 ?_ ?_ ?_ ?_
        ·exact⟨Nat.zero_le _,by simp only [go_sem,e0],by simp only [go_sem]⟩
        ·(simp only [go_sem,F])
         try rfl
        ·have F:=chAV.eq_1
         (simp only [go_sem,F])
         try rfl
        rintro q xs fs ⟨hq,e1,e2⟩
        by_cases hlt3:q<K.length
        ·obtain⟨u,hu⟩: ∃u,K[q]? =some u:=⟨K[q],List.getElem?_eq_getElem hlt3⟩
         have r1:=nlt hlt3
         have r2:=zac hlt3 (by omega)
         have g0:=hfa (u:Int)
         have huz:(zL K)[q]? =some (u:Int):=by unfold zL; rw [List.getElem?_map,hu]; rfl
         have hks:=zsm (act:=act) huz
         have hkl:(keptTo act (zL K) q).length<=32:=Nat.le_trans (List.length_filter_le ..) (by rw [List.length_take]; omega)
         have hf:Fits ((keptTo act (zL K) q).length+1) 8:=zah (by omega) (by omega)
         generalize keptTo act (zL K) q=X at*
         cases hc:act.contains (u:Int) with
         | false=>
           rw [hc] at g0 hks
           rw [if_neg Bool.false_ne_true] at hks
           have F:=ai zae.eq_1<|ai hu<|ai r1<|ai r2<|ai e1<|e2
           repeat (first | refine st ?_ | refine cC g0 ?_)
           refine⟨q+1,⟨hlt3,by simp only [go_sem,e1],by simp only [go_sem,e2]⟩, ?_, ?_,by omega⟩
           ·(simp only [go_sem,F])
           ·have F:=ai chAV.eq_1<|hks
            (simp only [go_sem,F])
         | true=>
           rw [hc] at g0 hks
           rw [if_pos rfl] at hks
           have F:=ai zae.eq_1<|ai hu<|ai r1<|ai r2<|ai e1<|ai e2<|hf
           repeat (first | refine st ?_ | refine cC g0 ?_)
           refine⟨q+1,⟨hlt3,by simp only [go_sem,e1],by simp only [go_sem,e2]⟩, ?_, ?_,by omega⟩
           ·(simp only [go_sem,F])
           ·have F:=ai chAV.eq_1<|ai zae.eq_1<|hks
            (simp only [go_sem,List.map_append,F])
        ·obtain rfl:q=K.length:=by omega
         have r1: ¬(K.length:Int)< (K.length:Int):=by omega
         have hta:keptTo act (zL K) K.length=V:=by unfold keptTo; rw [List.take_of_length_le (by rw [zdQ]; exact Nat.le_refl _)]; exact hV.symm
         rw [hta]
         have F:=ai r1<|ai e1<|e2
         repeat refine st ?_
         refine⟨_,Turned.frozen 52 12 ⟨1,V.map intAV,3,true⟩ rfl (Nat.succ_ne_zero 0) (by simp only [go_sem]) (by simp only [go_sem]),(),by simp only [go_sem,e1], ?_, ?_⟩
         ·(simp only [go_sem,F])
         ·have F:=chAV.eq_1
          (simp only [go_sem,F])
    ·clear e0
     rintro-us es e0
     cases hve:V.isEmpty with
     | true=>
       rw [hve,if_pos rfl] at hn
       have hV0:V.length=0:=by simpa using hve
       have p1: ¬(0:Int)< (V.length:Int):=by omega
       have F:=ai p1<|ai q2<|e0
       repeat refine st ?_
       refine⟨j+1,⟨hlt,by simp only [go_sem,e0]⟩, ?_, ?_,by omega⟩
       ·(simp only [go_sem,F])
       ·have F:=ai chAV.eq_1<|hn
        (simp only [go_sem,F])
     | false=>
       rw [hve,if_neg Bool.false_ne_true] at hn
       have hV0:V.length≠0:=by
        intro e
        rw [List.length_eq_zero_iff.1 e] at hve
        cases hve
       have p1:(0:Int)< (V.length:Int):=by omega
       have hf:Fits ((remRTo c act gone mem j).length+1) 32:=zah (by omega) (by omega)
       have F:=ai p1<|ai q2<|ai e0<|hf
       repeat refine st ?_
       refine⟨j+1,⟨hlt,by simp only [go_sem,e0]⟩, ?_, ?_,by omega⟩
       ·(simp only [go_sem,F])
       ·have F:=ai chAV.eq_1<|ai mmAV.eq_1<|hn
        (simp only [go_sem,List.map_append,F])
 ·obtain rfl:j=c.states.length:=by omega
  have q1: ¬(c.states.length:Int)< (c.states.length:Int):=by omega
  have F:=ai chAV.eq_1<|ai q1<|e0
  repeat refine st ?_
  exact aR
theorem zsh (env:Env) (l:List MemD) (hl:l.length<=1000000) (hm: ∀m∈l,m.2.length<=1000000):Con Tryz.prog env 61 [memsAV l,memsAV l] (B true):=by
 refine zaa Tryz.func61 rfl Tryz.call61 (by rw [Tryz.ntmps61]; simp) ?_
 rw [Tryz.ntmps61,Tryz.results61]
 repeat refine st0 ?_
 refine zab (D:=Nat) (fun j vs=>[(0,memsAV l),(1,memsAV l),(5,I j)]) (fun _ _=>[]) (fun j _ _=>j<=l.length) (fun j=>l.length-j) 0 ?_ ?_ ?_ ?_
 ·exact Nat.zero_le _
 ·(simp only [go_sem])
  try rfl
 ·(simp only [go_sem])
  try rfl
 rintro j ws esc hj
 by_cases hlt:j<l.length
 ·obtain⟨x,hx⟩: ∃x,l[j]? =some x:=⟨l[j],List.getElem?_eq_getElem hlt⟩
  have q1:=nlt hlt
  have q2:=zac hlt (by omega)
  have hxl:=hm x (List.mem_of_getElem? hx)
  have F:=ai mmAV.eq_1<|ai hx<|q1
  repeat refine st ?_
  refine zab (D:=Nat) (fun k vs=>[(0,memsAV l),(1,memsAV l),(5,I j),(6,I k)]) (fun _ _=>[]) (fun k _ _=>k<=x.2.length) (fun k=>x.2.length-k) 0 ?_ ?_ ?_ ?_
  ·exact Nat.zero_le _
  ·(simp only [go_sem,F])
   try rfl
  ·(simp only [go_sem,F])
   try rfl
  rintro k us es hk
  by_cases hlt2:k<x.2.length
  ·obtain⟨y,hy⟩: ∃y,x.2[k]? =some y:=⟨x.2[k],List.getElem?_eq_getElem hlt2⟩
   have p1:=nlt hlt2
   have p2:=zac hlt2 (by omega)
   have F:=ai mmAV.eq_1<|ai hx<|ai hy<|ai q1<|ai p1<|p2
   repeat refine st ?_
   refine⟨k+1,hlt2, ?_, ?_,by omega⟩
   ·(simp only [go_sem,F])
   ·(simp only [go_sem,F])
  ·obtain rfl:k=x.2.length:=by omega
   have p1: ¬(x.2.length:Int)< (x.2.length:Int):=by omega
   have F:=ai mmAV.eq_1<|ai hx<|ai q1<|ai q2<|p1
   repeat refine st ?_
   refine⟨j+1,hlt, ?_, ?_,by omega⟩
   ·(simp only [go_sem,F])
   ·(simp only [go_sem,F])
 ·obtain rfl:j=l.length:=by omega
  have q1: ¬(l.length:Int)< (l.length:Int):=by omega
  have F:=q1
  repeat refine st ?_
  exact aR
end
section
theorem zrI {c:ChD} (h:Full c) {act:List Int} {t:TrD} (hb:lgB c act=true) {x:Int} (hx:x∈leaveR c act t):x∈act:=by
 unfold leaveR at hx
 split at hx
 ·cases hx
 ·have hx:=List.mem_reverse.1 hx
  unfold undR at hx
  exact(sort_memI h.toRight fun y hy=>by
   obtain⟨_,_,hz,_⟩:=(lg_out hb).of hy
   exact hz).1 (List.mem_filter.1 hx).1
def nowL (c:ChD) (act:List Int) (t:TrD) (mem:List MemD):List MemD:=remL c act (leaveR c act t) mem
def zsG (c:ChD) (act:List Int) (t:TrD) (mem:List MemD):List Int:=moved (leaveR c act t) act (targetR c t (nowL c act t mem))
theorem zru {c:ChD} (h:Full c) {act:List Int} {t:TrD} {mem:List MemD} (hb:lgB c act=true) (hm:zc3 c mem=true):nowL c act t mem=remR c act (leaveR c act t) mem/\zc3 c (nowL c act t mem)=true:=remember_same h hb hm fun _ hx=>zrI h hb hx
theorem zrz {c:ChD} (h:Full c) (t:TrD) (mem:List MemD):(targetR c t mem).length<=32:=by
 unfold targetR
 split
 ·simp
 ·exact zj3 h
theorem zsx (env:Env) (a1 a8:Addr) (he:ChEnv env a1 a8) (c:ChD) (h:Full c) (hs:Small c) (act:List Int) (hl:act.length<=1000000) (n:Int) (mem:List MemD) (hb:lgB c act=false):Con Tryz.prog env 51 [zai c, .seq 1 (act.map intAV),I n,memsAV mem] (.tuple [nilS,nilS,errV (-1) (errV (-1) (errV (ziO c act).2 (sentV a1)))]):=by
 have f0:=LeaveE_con env a1 a8 he c h hs act hl n hb
 have f1:=zoZ env [101,110,116,101,114,46,77,111,118,101] (-1) (errV (ziO c act).2 (sentV a1))
 unfold zai at f0 |-
 refine zaa Tryz.func51 rfl Tryz.call51 (by rw [Tryz.ntmps51]; simp) ?_
 rw [Tryz.ntmps51,Tryz.results51]
 repeat (first | refine st0 ?_ | refine cC0 f0 ?_ | refine cC0 f1 ?_)
 exact aR0
theorem zsv (env:Env) (a1 a8:Addr) (he:ChEnv env a1 a8) (c:ChD) (h:Full c) (hs:Small c) (act:List Int) (hl:act.length<=1000000) (n:Int) (mem:List MemD) (hb:lgB c act=true) (hn:isT c n=false):Con Tryz.prog env 51 [zai c, .seq 1 (act.map intAV),I n,memsAV mem] (.tuple [nilS,nilS,errV (-1) (errV (-1) (sentV a1))]):=by
 have f0:=LeaveN_con env a1 a8 he c h hs act hl n hb hn
 have f1:=zoZ env [101,110,116,101,114,46,77,111,118,101] (-1) (sentV a1)
 unfold zai at f0 |-
 refine zaa Tryz.func51 rfl Tryz.call51 (by rw [Tryz.ntmps51]; simp) ?_
 rw [Tryz.ntmps51,Tryz.results51]
 repeat (first | refine st0 ?_ | refine cC0 f0 ?_ | refine cC0 f1 ?_)
 exact aR0
theorem zsw (env:Env) (a1 a8:Addr) (he:ChEnv env a1 a8) (c:ChD) (h:Full c) (hs:Small c) (act:List Int) (hl:act.length<=1000000) (k:Nat) (t:TrD) (ht:c.trans[k]? =some t) (mem:List MemD) (hml:mem.length<=1000000) (hF: ∀m∈mem,Fits m.2.length 8) (hb:lgB c act=true) (hm:zc3 c mem=false):Con Tryz.prog env 51 [zai c, .seq 1 (act.map intAV),I k,memsAV mem] (.tuple [nilS,nilS,errV (-1) (errV (-1) (sentV a1))]):=by
 have f0:=zoX env a1 a8 he c h hs act hl k t ht hb
 have f1:=zoZ env [101,110,116,101,114,46,77,111,118,101] (-1) (sentV a1)
 have f2:=zeE env a1 a8 he c h hs mem hml hF
 unfold chkM at f2
 rw [hm,if_neg Bool.false_ne_true] at f2
 unfold zai at f0 f2 |-
 refine zaa Tryz.func51 rfl Tryz.call51 (by rw [Tryz.ntmps51]; simp) ?_
 rw [Tryz.ntmps51,Tryz.results51]
 repeat (first | refine st0 ?_ | refine cC0 f0 ?_ | refine cC0 f2 ?_ | refine cC0 f1 ?_)
 exact aR0
theorem zrU (env:Env) (a1 a8:Addr) (he:ChEnv env a1 a8) (c:ChD) (h:Full c) (hs:Small c) (act:List Int) (hl:act.length<=1000) (k:Nat) (t:TrD) (ht:c.trans[k]? =some t) (mem:List MemD) (hml:mem.length<=1000000) (hF: ∀m∈mem,Fits m.2.length 8) (hb:lgB c act=true) (hm:zc3 c mem=true):Con Tryz.prog env 51 [zai c, .seq 1 (act.map intAV),I k,memsAV mem] (.tuple [.seq 1 ((zsG c act t mem).map intAV),memsAV (nowL c act t mem),nilE]):=by
 have f0:=zoX env a1 a8 he c h hs act (by omega) k t ht hb
 have f1:=zeE env a1 a8 he c h hs mem hml hF
 unfold chkM at f1
 rw [hm,if_pos rfl] at f1
 obtain⟨g1,g2⟩:=leave_nat h.toRight (act:=act) (t:=t)
 have f2:=zrV env c h hs act (leaveR c act t) mem (by omega) (by omega) hb (fun x hx=>zrI h hb hx) hm
 have f3:=ze0 env (act.map intAV) (by rw [List.length_map]; omega)
 have f4:=zjx env act (fun i=>(leaveR c act t).contains i) 104 (leaveR c act t) 35 (zpr env _ (by omega)) (by omega)
 have f5:=zhx env c hs k t ht
 have hsl:(stayL (leaveR c act t) act).length<=1000:=Nat.le_trans (List.length_filter_le ..) hl
 have hng:=(zru (t:=t) h hb hm).2
 have hnl:=zrw (zrO hng)
 have hfew:=h.few
 have htl:=zrz h t (nowL c act t mem)
 have f6:=fun(htg:inZ c t.target=true)=>zgR env c h hs t (h.src ht).1 htg (nowL c act t mem) (by omega) (fun m hm'=>by have:=(znD h hng m hm').2; omega) hng
 have htz: ¬t.target<0->inZ c t.target=true:=fun h0=>by
  rcases (h.src ht).2 with e | e
  ·omega
  ·exact e
 have hT:targetR c t (nowL c act t mem)=if t.target<0 then [] else tgtL c t.src t.target (nowL c act t mem):=rfl
 rw [show (act.filter fun i=> !(leaveR c act t).contains i)=stayL (leaveR c act t) act from rfl] at f4
 rw [show remL c act (leaveR c act t) mem=nowL c act t mem from rfl] at f2
 unfold zsG
 generalize nowL c act t mem=R at*
 generalize targetR c t R=T at*
 generalize leaveR c act t=G at*
 unfold moved
 generalize stayL G act=L at*
 have hz:(zL T).map intAV=T.map zae:=ze8 T
 have g1:=zj4 (L++zL T) (by rw [List.length_append,zdQ]; omega)
 have g2:=zhh (zeK (L++zL T)) (by rw [zm3,List.length_append,zdQ]; omega)
 unfold trAV at f5
 by_cases h0:t.target<0
 ·rw [if_pos h0] at hT
  subst hT
  have q0: ¬0<=t.target:=by omega
  rw [show L++zL []=L from List.append_nil L] at g1 g2 |-
  unfold zai at f0 f1 f2 f5 |-
  refine zaa Tryz.func51 rfl Tryz.call51 (by rw [Tryz.ntmps51]; simp) ?_
  rw [Tryz.ntmps51,Tryz.results51]
  have F:=q0
  repeat (first | refine st ?_ | refine cC f0 ?_ | refine cC f1 ?_ | refine cC f2 ?_ | refine cC f3 ?_)
  refine zeD [(1000,39),(1001,11)] rfl (f4) (by decide) (by decide) (by simp only [go_sem,F]<;>rfl) (by simp only [go_sem,F,and_self]<;>trivial) (by simp only [go_sem,F,and_self]<;>trivial) (by intro o; simp only [go_sem,F,behind,and_self]<;>trivial) (by intro o; simp only [go_sem,F]<;>rfl) (by simp only [go_sem,F,behind]; exact iR) (by simp only [go_sem,F,behind]; exact iR) ?_
  have F:=q0
  repeat (first | refine st ?_ | refine cC f5 ?_)
  refine zn9 39 rfl (row:=⟨1,L.map intAV,3,true⟩) g1 (Nat.succ_ne_zero 0) rfl (zbc _).symm (by simp only [go_sem]; exact iR) (by simp only [go_sem]; exact iR) (by simp only [go_sem]; exact iR) (by simp only [go_sem]; exact iR) ?_
  rw [zbc]
  repeat refine st ?_
  refine zfP 39 rfl (row:=⟨1,(zeK L).map intAV,3,true⟩) g2 (Nat.succ_ne_zero 0) rfl (zbc _).symm (by simp only [go_sem]; exact iR) (by simp only [go_sem]; exact iR) (by simp only [go_sem]; exact iR) (by simp only [go_sem]; exact iR) iR ?_
  rw [zbc]
  repeat refine st ?_
  exact aR
 ·rw [if_neg h0] at hT
  have f6:=f6 (htz h0)
  rw [<-hT] at f6
  have q0:0<=t.target:=by omega
  have hf:Fits (L.length+T.length) 8:=zah (by omega) (by omega)
  unfold trAV at f6
  unfold zai at f0 f1 f2 f5 f6 |-
  refine zaa Tryz.func51 rfl Tryz.call51 (by rw [Tryz.ntmps51]; simp) ?_
  rw [Tryz.ntmps51,Tryz.results51]
  have F:=q0
  repeat (first | refine st ?_ | refine cC f0 ?_ | refine cC f1 ?_ | refine cC f2 ?_ | refine cC f3 ?_)
  refine zeD [(1000,39),(1001,11)] rfl (f4) (by decide) (by decide) (by simp only [go_sem,F]<;>rfl) (by simp only [go_sem,F,and_self]<;>trivial) (by simp only [go_sem,F,and_self]<;>trivial) (by intro o; simp only [go_sem,F,behind,and_self]<;>trivial) (by intro o; simp only [go_sem,F]<;>rfl) (by simp only [go_sem,F,behind]; exact iR) (by simp only [go_sem,F,behind]; exact iR) ?_
  have F:=ai q0<|hf
  repeat (first | refine st ?_ | refine cC f5 ?_ | refine cC f6 ?_)
  have hap:(L++zL T).map intAV=L.map intAV++T.map zae:=by rw [List.map_append,hz]
  refine zn9 39 rfl (row:=⟨1,(L++zL T).map intAV,3,true⟩) g1 (Nat.succ_ne_zero 0) rfl (zbc _).symm (by simp only [go_sem]; exact iR) (by simp only [go_sem,hap]; exact iR) (by simp only [go_sem]; exact iR) (by simp only [go_sem]; exact iR) ?_
  rw [zbc]
  repeat refine st ?_
  refine zfP 39 rfl (row:=⟨1,(zeK (L++zL T)).map intAV,3,true⟩) g2 (Nat.succ_ne_zero 0) rfl (zbc _).symm (by simp only [go_sem]; exact iR) (by simp only [go_sem]; exact iR) (by simp only [go_sem]; exact iR) (by simp only [go_sem]; exact iR) iR ?_
  rw [zbc]
  repeat refine st ?_
  exact aR
end
section
theorem zrs (env:Env) (c:ChD) (h:Full c) (act:List Int) (hl:act.length<=1000000):Con Tryz.prog env 46 [.agg (chAV c), .seq 1 (act.map intAV)] (B (lgB c act)):=by
 have f0:=rCheck29g_con env c h act hl
 unfold lgB
 refine zaa Tryz.func46 rfl Tryz.call46 (by rw [Tryz.ntmps46]; simp) ?_
 rw [Tryz.ntmps46,Tryz.results46]
 have F:=chAV.eq_1
 repeat (first | refine st ?_ | refine cC f0 ?_)
 exact aR
end
section
def zrx (G act:List Int) (j:Nat):List Int:=(act.take j).filter fun i=> !G.contains i
def outL (c:ChD) (act:List Int) (t:TrD) (mem:List MemD):List Nat:=targetR c t (nowL c act t mem)++(stayL (leaveR c act t) act).map Int.toNat
theorem zsy {c:ChD} (h:Right c) {l:List Int} {k:Nat} (hk:k∈sortL c l):k<c.states.length:=by
 unfold sortL at hk
 split at hk
 ·have hw:=(List.mem_filter.1 hk).1
  exact(zkL h k).1 hw
 ·cases hk
theorem zsD {c:ChD} (h:Full c) {act:List Int} (hb:lgB c act=true) {t:TrD} {mem:List MemD} {k:Nat} (hk:k∈outL c act t mem):k<c.states.length:=by
 unfold outL at hk
 rcases List.mem_append.1 hk with hk | hk
 ·unfold targetR at hk
  split at hk
  ·cases hk
  ·exact zsy h.toRight hk
 ·obtain⟨x,hx,rfl⟩:=List.mem_map.1 hk
  obtain⟨_,_,hz,_⟩:=(lg_out hb).of (List.mem_filter.1 hx).1
  have:=zag.1 hz
  omega
theorem zrH {c:ChD} (h:Full c) {act:List Int} (hb:lgB c act=true) {t:TrD} {mem:List MemD} :zsG c act t mem=zL (riseL c (outL c act t mem)):=by
 refine compact_sort (fun x=> ?_) fun k hk=>zsD h hb hk
 have hz: ∀x∈stayL (leaveR c act t) act,0<=x:=fun x hx=>by
  obtain⟨_,_,hz,_⟩:=(lg_out hb).of (List.mem_filter.1 hx).1
  exact(zag.1 hz).1
 have e:zL (outL c act t mem)=zL (targetR c t (nowL c act t mem))++stayL (leaveR c act t) act:=by
  unfold outL
  conv=>rhs; rw [zri hz]
  unfold zL
  rw [List.map_append]
 rw [e,List.mem_append,List.mem_append]
 exact Or.comm
theorem zsE {c:ChD} (h:Full c) {act:List Int} {t:TrD} {mem:List MemD} :(outL c act t mem).length<=32+act.length:=by
 unfold outL
 rw [List.length_append,List.length_map]
 have:=zrz h t (nowL c act t mem)
 have:(stayL (leaveR c act t) act).length<=act.length:=List.length_filter_le ..
 omega
theorem zrX {G act:List Int} {j:Nat} {x:Int} (h:act[j]? =some x):zrx G act (j+1)=if (!G.contains x)=true then zrx G act j++[x] else zrx G act j:=zrP h
theorem zsi (env:Env) (c:ChD) (h:Full c) (act:List Int) (hl:act.length<=1000) (hb:lgB c act=true) (k:Nat) (t:TrD) (ht:c.trans[k]? =some t) (mem:List MemD) (hml:mem.length<=1000000) (hm:zc3 c mem=true):Con Tryz.prog env 60 [.agg (chAV c), .seq 1 (act.map intAV), .agg (trAV t),memsAV mem] (.tuple [.seq 1 ((riseL c (outL c act t mem)).map zae),memsAV (nowL c act t mem)]):=by
 have hfew:=h.few
 have hz: ∀x∈act,0<=x:=fun x hx=>by
  obtain⟨_,_,hz,_⟩:=(lg_out hb).of hx
  exact(zag.1 hz).1
 have f1:=rLeave30_con env c h act (by omega) hz k t ht
 obtain⟨g1,g2⟩:=leave_nat h.toRight (act:=act) (t:=t)
 have f2:=zrQ env c h act (leaveR c act t) (by omega) hz (by omega) mem hml
 obtain⟨hsame,hgood⟩:=zru (t:=t) h hb hm
 rw [<-hsame] at f2
 have hRl:=zrw (zrO hgood)
 have f3:=ziw env c h (nowL c act t mem) (by omega) k t ht hgood
 have htl:=zrz h t (nowL c act t mem)
 have f4:=rising_con env c (by omega) (outL c act t mem) (by have:=zsE h (act:=act) (t:=t) (mem:=mem); omega)
 have hI:=fun x:Int=>zdF env (leaveR c act t) x (by omega)
 unfold outL at f4 |-
 generalize nowL c act t mem=R at*
 generalize targetR c t R=T at*
 generalize leaveR c act t=G at*
 have hsl: ∀j,(zrx G act j).length<=1000:=fun j=>Nat.le_trans (List.length_filter_le ..) (by rw [List.length_take]; omega)
 have hall:zrx G act act.length=stayL G act:=by unfold zrx stayL; rw [List.take_length]
 unfold chAV trAV at f1 f3
 unfold chAV at f2 f4
 refine zaa Tryz.func60 rfl Tryz.call60 (by rw [Tryz.ntmps60]; simp) ?_
 rw [Tryz.ntmps60,Tryz.results60]
 have F:=ai chAV.eq_1<|trAV.eq_1
 repeat (first | refine st ?_ | refine cC f1 ?_ | refine cC f2 ?_ | refine cC f3 ?_)
 refine zab (D:=Nat) (fun j vs=>[(1, .seq 1 (act.map intAV)),(4, .loc 4 (vs 4) 0 0),(10, .row 17 (vs 17)),(11, .row 22 (vs 22)),(12, .row 26 (vs 26)),(13,I j)]) (fun j _=>[(4,⟨5,[chAV c],26,false⟩),(17,⟨1,G.map intAV,3,true⟩),(22,⟨2,R.map mmAV,133,true⟩),(26,⟨1,(T++(zrx G act j).map Int.toNat).map zae,3,true⟩)]) (fun j _ esc=>j<=act.length/\esc 26=false) (fun j=>act.length-j) 0 ?_ ?_ ?_ ?_
 ·exact⟨Nat.zero_le _,by simp only [go_sem]⟩
 ·(simp only [go_sem,F])
  try rfl
 ·have F:=chAV.eq_1
  (simp only [go_sem,F])
  rw [show zrx G act 0=[] from rfl,List.map_nil,List.append_nil]
 rintro j ws esc ⟨hj,e0⟩
 by_cases hlt:j<act.length
 ·obtain⟨x,hx⟩: ∃x,act[j]? =some x:=⟨act[j],List.getElem?_eq_getElem hlt⟩
  have q1:=nlt hlt
  have q2:=zac hlt (by omega)
  obtain⟨m,rfl⟩: ∃m:Nat,x=(m:Int):=⟨x.toNat,by have:=hz x (List.mem_of_getElem? hx); omega⟩
  have f0:=hI (m:Int)
  have hn:=zrX (G:=G) hx
  have hsj:=hsl j
  have hf:Fits (T.length+(zrx G act j).length+1) 8:=zah (by omega) (by omega)
  cases hc:G.contains (m:Int) with
  | true=>
    rw [hc] at f0 hn
    rw [Bool.not_true,if_neg Bool.false_ne_true] at hn
    have F:=ai chAV.eq_1<|ai hx<|ai q1<|ai q2<|e0
    repeat (first | refine st ?_ | refine cC f0 ?_)
    refine⟨j+1,⟨hlt,by simp only [go_sem,e0]⟩, ?_, ?_,by omega⟩
    ·(simp only [go_sem,F])
    ·have F:=ai chAV.eq_1<|hn
     (simp only [go_sem,F])
  | false=>
    rw [hc] at f0 hn
    rw [Bool.not_false,if_pos rfl] at hn
    have F:=ai chAV.eq_1<|ai hx<|ai q1<|ai q2<|ai e0<|hf
    repeat (first | refine st ?_ | refine cC f0 ?_)
    refine⟨j+1,⟨hlt,by simp only [go_sem,e0]⟩, ?_, ?_,by omega⟩
    ·(simp only [go_sem,F])
    ·have F:=ai chAV.eq_1<|ai zae.eq_1<|hn
     (simp only [go_sem,List.map_append,List.append_assoc,F])
 ·obtain rfl:j=act.length:=by omega
  have q1: ¬(act.length:Int)< (act.length:Int):=by omega
  rw [hall]
  have F:=ai chAV.eq_1<|ai q1<|e0
  repeat (first | refine st ?_ | refine cC f4 ?_)
  exact aR
theorem zrA (ad:Nat->Addr) (c:ChD) (hcf:zdq c) (act:List Int) (n:Int) (mem:List MemD) (hF: ∀m∈mem,Fits m.2.length 8):Con Tryz.prog (zaI ad zaJ) 9 [.agg (zbG c act n mem)] (B true):=by
 have he:=zk8 ad
 have fa:=zgA (zaI ad zaJ) (ad 1) (ad 8) he (zem ad)
 have fr:=zf3 (zaI ad zaJ) c act n mem
 cases hg:zfx c with
 | false=>
   have fm:=zge (zaI ad zaJ) c hg
   unfold zfc at fr
   rw [hg,Bool.not_false,Bool.true_or,Bool.true_or] at fr
   unfold chAV at fm
   unfold zbG at fr |-
   refine zaa Tryz.func9 rfl Tryz.call9 (by rw [Tryz.ntmps9]; simp) ?_
   rw [Tryz.ntmps9,Tryz.results9]
   repeat (first | refine st0 ?_ | refine cC0 fm ?_ | refine cC0 fr ?_ | refine cC0 fa ?_)
   exact aR0
 | true=>
 have h:=zi7 hg
 have hs:=zfA (zn8 hg)
 have fm:=zg1 (zaI ad zaJ) (ad 1) (ad 8) he (zem ad) c hcf hg
 cases hr:zfc c act mem with
 | true=>
   rw [hr] at fr
   unfold chAV zai at fm
   unfold zbG at fr |-
   refine zaa Tryz.func9 rfl Tryz.call9 (by rw [Tryz.ntmps9]; simp) ?_
   rw [Tryz.ntmps9,Tryz.results9]
   repeat (first | refine st0 ?_ | refine cC0 fm ?_ | refine cC0 fr ?_ | refine cC0 fa ?_)
   exact aR0
 | false=>
 rw [hr] at fr
 unfold zfc at hr
 rw [hg,Bool.not_true,Bool.false_or,Bool.or_eq_false_iff,decide_eq_false_iff_not,decide_eq_false_iff_not] at hr
 have hl:act.length<=1000:=by omega
 have hml:mem.length<=1000000:=by omega
 have fL:=zrs (zaI ad zaJ) c h act (by omega)
 have fC:=zfe (zaI ad zaJ) c h mem hml hF
 have fi:=zng (zaI ad zaJ) c n
 cases hb:lgB c act with
 | false=>
   rw [hb] at fL
   have fl:=zsx (zaI ad zaJ) (ad 1) (ad 8) he c h hs act (by omega) n mem hb
   generalize (ziO c act).2=p at*
   have ft:Con Tryz.prog (zaI ad zaJ) 58 [errV (-1) (errV (-1) (errV p (sentV (ad 1)))),I 1] (B true):=zdZ ad zaJ 1 (by omega) (-1) [-1,p]
   generalize sentV (ad 1)=E at*
   unfold chAV at fL fC fi
   unfold chAV zai at fm
   unfold zai at fl
   unfold zbG at fr |-
   refine zaa Tryz.func9 rfl Tryz.call9 (by rw [Tryz.ntmps9]; simp) ?_
   rw [Tryz.ntmps9,Tryz.results9]
   repeat (first | refine st0 ?_ | refine cC0 fm ?_ | refine cC0 fr ?_ | refine cC0 fl ?_ | refine cC0 fL ?_ | refine cC0 fC ?_ | refine cC0 fi ?_ | refine cC0 ft ?_ | refine cC0 fa ?_)
   exact aR0
 | true=>
 rw [hb] at fL
 cases ht:isT c n with
 | false=>
   rw [ht] at fi
   have fl:=zsv (zaI ad zaJ) (ad 1) (ad 8) he c h hs act (by omega) n mem hb ht
   have ft:Con Tryz.prog (zaI ad zaJ) 58 [errV (-1) (errV (-1) (sentV (ad 1))),I 1] (B true):=zdZ ad zaJ 1 (by omega) (-1) [-1]
   generalize sentV (ad 1)=E at*
   unfold chAV at fL fC fi
   unfold chAV zai at fm
   unfold zai at fl
   unfold zbG at fr |-
   cases hm:zc3 c mem with
   | false=>
     rw [hm] at fC
     refine zaa Tryz.func9 rfl Tryz.call9 (by rw [Tryz.ntmps9]; simp) ?_
     rw [Tryz.ntmps9,Tryz.results9]
     repeat (first | refine st0 ?_ | refine cC0 fm ?_ | refine cC0 fr ?_ | refine cC0 fl ?_ | refine cC0 fL ?_ | refine cC0 fC ?_ | refine cC0 fi ?_ | refine cC0 ft ?_ | refine cC0 fa ?_)
     exact aR0
   | true=>
     rw [hm] at fC
     refine zaa Tryz.func9 rfl Tryz.call9 (by rw [Tryz.ntmps9]; simp) ?_
     rw [Tryz.ntmps9,Tryz.results9]
     repeat (first | refine st0 ?_ | refine cC0 fm ?_ | refine cC0 fr ?_ | refine cC0 fl ?_ | refine cC0 fL ?_ | refine cC0 fC ?_ | refine cC0 fi ?_ | refine cC0 ft ?_ | refine cC0 fa ?_)
     exact aR0
 | true=>
 rw [ht] at fi
 obtain⟨k,t,rfl,hk⟩:=zqV ht
 cases hm:zc3 c mem with
 | false=>
   rw [hm] at fC
   have fl:=zsw (zaI ad zaJ) (ad 1) (ad 8) he c h hs act (by omega) k t hk mem hml hF hb hm
   have ft:Con Tryz.prog (zaI ad zaJ) 58 [errV (-1) (errV (-1) (sentV (ad 1))),I 1] (B true):=zdZ ad zaJ 1 (by omega) (-1) [-1]
   generalize sentV (ad 1)=E at*
   unfold chAV at fL fC fi
   unfold chAV zai at fm
   unfold zai at fl
   unfold zbG at fr |-
   refine zaa Tryz.func9 rfl Tryz.call9 (by rw [Tryz.ntmps9]; simp) ?_
   rw [Tryz.ntmps9,Tryz.results9]
   repeat (first | refine st0 ?_ | refine cC0 fm ?_ | refine cC0 fr ?_ | refine cC0 fl ?_ | refine cC0 fL ?_ | refine cC0 fC ?_ | refine cC0 fi ?_ | refine cC0 ft ?_ | refine cC0 fa ?_)
   exact aR0
 | true=>
   rw [hm] at fC
   have hk1:=(List.getElem?_eq_some_iff.1 hk).1
   have q0:((k:Nat):Int)< (c.trans.length:Int):=by omega
   have fl:=zrU (zaI ad zaJ) (ad 1) (ad 8) he c h hs act hl k t hk mem hml hF hb hm
   have fq:=zsi (zaI ad zaJ) c h act hl hb k t hk mem hml hm
   rw [zrH h hb,ze8] at fl
   have hgood:=(zru (t:=t) h hb hm).2
   have hRl:=zrw (zrO hgood)
   have hfew:=h.few
   have hrl:(riseL c (outL c act t mem)).length<=32:=Nat.le_trans (List.length_filter_le ..) (by rw [List.length_range]; omega)
   generalize nowL c act t mem=R at*
   generalize riseL c (outL c act t mem)=W at*
   have hRs: ∀m∈R,m.2.length<=32:=fun m hm'=>(znD h hgood m hm').2
   have fS:=zsh (zaI ad zaJ) R (by omega) (fun m hm'=>by have:=hRs m hm'; omega)
   have fs:=zfb (zaI ad zaJ) W W (by omega)
   rw [decide_eq_true rfl] at fs
   unfold chAV at fL fC fi fq
   unfold trAV at fq
   unfold chAV zai at fm
   unfold zai at fl
   unfold zbG at fr |-
   refine zaa Tryz.func9 rfl Tryz.call9 (by rw [Tryz.ntmps9]; simp) ?_
   rw [Tryz.ntmps9,Tryz.results9]
   have F:=ai trAV.eq_1<|ai hk<|q0
   repeat (first | refine st ?_ | refine cC fm ?_ | refine cC fr ?_ | refine cC fl ?_ | refine cC fL ?_ | refine cC fC ?_ | refine cC fi ?_ | refine cC fq ?_ | refine cC fs ?_ | refine cC fS ?_ | refine cC fa ?_)
   exact aR
end

end Go.Proofs.YtlmekdfleciejaaGreatDoor