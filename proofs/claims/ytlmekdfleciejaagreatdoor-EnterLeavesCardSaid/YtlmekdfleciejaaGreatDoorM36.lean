/- scriniumref24.State: by the walk without memory. -/
import Derived.Test.YtlmekdfleciejaaGreatDoorM35
import Derived.Test.YtlmekdfleciejaaGreatDoorM6
import Derived.Test.YtlmekdfleciejaaGreatDoorM8
set_option linter.unusedSimpArgs false
namespace Go.Proofs.YtlmekdfleciejaaGreatDoor
open Go.RowKit
set_option maxRecDepth 100000
set_option maxHeartbeats 8000000
theorem pos_len {α : Type} [DecidableEq α] (l : List α) : (0 < (l.length : Int)) = ((l == []) = false) := by
  rw [eq_iff_iff]
  cases l <;> simp
theorem rStateTop_con (env : Env) (c : ChD) (hn : c.states.length ≤ 1000000) (i : Nat) (s : StD) (hs : c.states[i]? = some s) (hp : s.parent = -1) : Con Tryz.prog env 94 [.agg (chAV c), I i] (B (stateB c i s)) := by
  have hi : i < c.states.length := (List.getElem?_eq_some_iff.1 hs).1
  have k0 := nlt hi
  have f1 := w_name_con env s.name
  have f2 := rFind_con env c s.name hn
  have f3 := rActs_con env c s.inn
  have f4 := rActs_con env c s.out
  have f5 := rKids_con env c (i : Int) true hn
  have f6 := rKids_con env c (i : Int) false hn
  have f7 := rMemory_con env s
  have hlen : (kidsL c i true).length ≤ 1000000 := by
    have := kidsTo_len c i true c.states.length
    unfold kidsL
    omega
  have f8 := rIn_con env (kidsL c i true) s.initial hlen
  have f9 := rRegions_con env c (kidsL c i true) hlen (fun k hk => (kidsTo_lt hk).1)
  have z1 := nil_len (kidsL c i true)
  have z2 := pos_len (kidsL c i false)
  have z3 := nil_len s.out
  have z4 := nil_len s.inn
  refine con_of_body Tryz.func94 rfl Tryz.call94 (by rw [Tryz.ntmps94]; simp) ?_
  rw [Tryz.ntmps94, Tryz.results94]
  cases e1 : nameB s.name
  · rw [show stateB c i s = false by unfold stateB; rw [e1]; rfl]
    have F := And.intro chAV.eq_1 <| And.intro stAV.eq_1 <| And.intro k0 <| And.intro hs <| And.intro bneA <| e1
    repeat (first | refine st ?_ | refine cC f1 ?_)
    exact aR
  cases e2 : (findI c s.name == (i : Int))
  · rw [show stateB c i s = false by unfold stateB; rw [e2]; simp]
    have F := And.intro chAV.eq_1 <| And.intro stAV.eq_1 <| And.intro k0 <| And.intro hs <| And.intro bneA <| And.intro e1 <| e2
    repeat (first | refine st ?_ | refine cC f1 ?_ | refine cC f2 ?_)
    exact aR
  cases e3 : actsB c.vars.length c.states.length s.inn
  · rw [show stateB c i s = false by unfold stateB; rw [e3]; simp]
    have F := And.intro chAV.eq_1 <| And.intro stAV.eq_1 <| And.intro k0 <| And.intro hs <| And.intro bneA <| And.intro e1 <| And.intro e2 <| e3
    repeat (first | refine st ?_ | refine cC f1 ?_ | refine cC f2 ?_ | refine cC f3 ?_)
    exact aR
  cases e4 : actsB c.vars.length c.states.length s.out
  · rw [show stateB c i s = false by unfold stateB; rw [e4]; simp]
    have F := And.intro chAV.eq_1 <| And.intro stAV.eq_1 <| And.intro k0 <| And.intro hs <| And.intro bneA <| And.intro e1 <| And.intro e2 <| And.intro e3 <| e4
    repeat (first | refine st ?_ | refine cC f1 ?_ | refine cC f2 ?_ | refine cC f3 ?_ | refine cC f4 ?_)
    exact aR
  have hpar : parentB c i s = true := by unfold parentB; rw [hp]; rfl
  have hu : plainB c s = false := by unfold plainB at_; rw [hp]; rfl
  have hpp : ((s.parent == -1) || plainB c s) = true := by rw [hp]; rfl
  have fu := rUnder_con env c s (by omega)
  have hst : stateB c i s = shapeB c i s := by unfold stateB; rw [e1, e2, e3, e4, hpar]; simp
  rw [hst]
  by_cases hk1 : s.kind = 1
  · cases e5 : (kidsL c i true == [])
    · rw [show shapeB c i s = inL (kidsL c i true) s.initial by unfold shapeB; rw [if_pos hk1, if_neg (by simpa using e5)]]
      have F := And.intro chAV.eq_1 <| And.intro stAV.eq_1 <| And.intro k0 <| And.intro hs <| And.intro bneA <| And.intro e1 <| And.intro e2 <| And.intro e3 <| And.intro e4 <| And.intro hp <| And.intro hk1 <| And.intro z1 <| e5
      repeat (first | refine st ?_ | refine cC f1 ?_ | refine cC f2 ?_ | refine cC f3 ?_ | refine cC f4 ?_ | refine cC f5 ?_ | refine cC f8 ?_)
      exact aR
    · rw [show shapeB c i s = (s.initial == -1) by unfold shapeB; rw [if_pos hk1, if_pos (by simpa using e5)]]
      have F := And.intro chAV.eq_1 <| And.intro stAV.eq_1 <| And.intro k0 <| And.intro hs <| And.intro bneA <| And.intro e1 <| And.intro e2 <| And.intro e3 <| And.intro e4 <| And.intro hp <| And.intro hk1 <| And.intro z1 <| e5
      repeat (first | refine st ?_ | refine cC f1 ?_ | refine cC f2 ?_ | refine cC f3 ?_ | refine cC f4 ?_ | refine cC f5 ?_ | refine cC f8 ?_)
      exact aR
  have b1 := ne_beq hk1
  by_cases hk2 : s.kind = 2
  · have hr : shapeB c i s = (((kidsL c i true).all fun k => normAt c k) && decide (0 < (kidsL c i true).length) && (s.initial == -1)) := by unfold shapeB; rw [if_neg hk1, if_pos hk2]
    rw [hr]
    cases e5 : (s.initial == -1)
    · rw [Bool.and_false]
      have F := And.intro chAV.eq_1 <| And.intro stAV.eq_1 <| And.intro k0 <| And.intro hs <| And.intro bneA <| And.intro e1 <| And.intro e2 <| And.intro e3 <| And.intro e4 <| And.intro hp <| And.intro hk2 <| e5
      repeat (first | refine st ?_ | refine cC f1 ?_ | refine cC f2 ?_ | refine cC f3 ?_ | refine cC f4 ?_ | refine cC f5 ?_ | refine cC f9 ?_)
      exact aR
    · rw [Bool.and_true]
      have F := And.intro chAV.eq_1 <| And.intro stAV.eq_1 <| And.intro k0 <| And.intro hs <| And.intro bneA <| And.intro e1 <| And.intro e2 <| And.intro e3 <| And.intro e4 <| And.intro hp <| And.intro hk2 <| e5
      repeat (first | refine st ?_ | refine cC f1 ?_ | refine cC f2 ?_ | refine cC f3 ?_ | refine cC f4 ?_ | refine cC f5 ?_ | refine cC f9 ?_)
      exact aR
  have b2 := ne_beq hk2
  cases e5 : (kidsL c i false == [])
  · rw [show shapeB c i s = false by unfold shapeB; rw [if_neg hk1, if_neg hk2, e5]; simp]
    have F := And.intro chAV.eq_1 <| And.intro stAV.eq_1 <| And.intro k0 <| And.intro hs <| And.intro bneA <| And.intro e1 <| And.intro e2 <| And.intro e3 <| And.intro e4 <| And.intro hp <| And.intro b1 <| And.intro b2 <| And.intro z2 <| e5
    repeat (first | refine st ?_ | refine cC f1 ?_ | refine cC f2 ?_ | refine cC f3 ?_ | refine cC f4 ?_ | refine cC f5 ?_ | refine cC f6 ?_)
    exact aR
  by_cases hk3 : s.kind = 3
  · have hr : shapeB c i s = ((kidsL c i false == []) && ((s.parent == -1) || plainB c s) && (s.initial == -1) && (s.out == [])) := by unfold shapeB; rw [if_neg hk1, if_neg hk2, if_pos hk3]
    rw [hr, e5, hpp]
    cases e6 : (s.initial == -1)
    · rw [Bool.and_false, Bool.false_and]
      have F := And.intro chAV.eq_1 <| And.intro stAV.eq_1 <| And.intro k0 <| And.intro hs <| And.intro bneA <| And.intro e1 <| And.intro e2 <| And.intro e3 <| And.intro e4 <| And.intro hp <| And.intro hk3 <| And.intro z2 <| And.intro e5 <| e6
      repeat (first | refine st ?_ | refine cC f1 ?_ | refine cC f2 ?_ | refine cC f3 ?_ | refine cC f4 ?_ | refine cC f5 ?_ | refine cC f6 ?_ | refine cC fu ?_)
      exact aR
    cases e7 : (s.out == [])
    · rw [Bool.and_false]
      have F := And.intro chAV.eq_1 <| And.intro stAV.eq_1 <| And.intro k0 <| And.intro hs <| And.intro bneA <| And.intro e1 <| And.intro e2 <| And.intro e3 <| And.intro e4 <| And.intro hp <| And.intro hk3 <| And.intro z2 <| And.intro z3 <| And.intro e5 <| And.intro e6 <| e7
      repeat (first | refine st ?_ | refine cC f1 ?_ | refine cC f2 ?_ | refine cC f3 ?_ | refine cC f4 ?_ | refine cC f5 ?_ | refine cC f6 ?_ | refine cC fu ?_)
      exact aR
    have F := And.intro chAV.eq_1 <| And.intro stAV.eq_1 <| And.intro k0 <| And.intro hs <| And.intro bneA <| And.intro e1 <| And.intro e2 <| And.intro e3 <| And.intro e4 <| And.intro hp <| And.intro hk3 <| And.intro z2 <| And.intro z3 <| And.intro e5 <| And.intro e6 <| e7
    repeat (first | refine st ?_ | refine cC f1 ?_ | refine cC f2 ?_ | refine cC f3 ?_ | refine cC f4 ?_ | refine cC f5 ?_ | refine cC f6 ?_ | refine cC fu ?_)
    exact aR
  have b3 := ne_beq hk3
  by_cases hk45 : s.kind = 4 ∨ s.kind = 5
  · have hr : shapeB c i s = ((kidsL c i false == []) && plainB c s && inL (kidsL c s.parent true) s.initial && (s.inn == []) && (s.out == [])) := by unfold shapeB; rw [if_neg hk1, if_neg hk2, if_neg hk3, if_pos hk45]
    have e6 : memyB s = true := by unfold memyB; simpa using hk45
    rw [hr, e5, Bool.true_and]
    rw [hu, Bool.false_and, Bool.false_and, Bool.false_and]
    have F := And.intro chAV.eq_1 <| And.intro stAV.eq_1 <| And.intro k0 <| And.intro hs <| And.intro bneA <| And.intro e1 <| And.intro e2 <| And.intro e3 <| And.intro e4 <| And.intro hp <| And.intro b1 <| And.intro b2 <| And.intro b3 <| And.intro z2 <| And.intro e5 <| And.intro e6 <| hu
    repeat (first | refine st ?_ | refine cC f1 ?_ | refine cC f2 ?_ | refine cC f3 ?_ | refine cC f4 ?_ | refine cC f5 ?_ | refine cC f6 ?_ | refine cC f7 ?_ | refine cC fu ?_)
    exact aR
  have e6 : memyB s = false := by unfold memyB; simpa using hk45
  rw [show shapeB c i s = false by unfold shapeB; rw [if_neg hk1, if_neg hk2, if_neg hk3, if_neg hk45]]
  have F := And.intro chAV.eq_1 <| And.intro stAV.eq_1 <| And.intro k0 <| And.intro hs <| And.intro bneA <| And.intro e1 <| And.intro e2 <| And.intro e3 <| And.intro e4 <| And.intro hp <| And.intro b1 <| And.intro b2 <| And.intro b3 <| And.intro z2 <| And.intro e5 <| e6
  repeat (first | refine st ?_ | refine cC f1 ?_ | refine cC f2 ?_ | refine cC f3 ?_ | refine cC f4 ?_ | refine cC f5 ?_ | refine cC f6 ?_ | refine cC f7 ?_)
  exact aR
end Go.Proofs.YtlmekdfleciejaaGreatDoor
