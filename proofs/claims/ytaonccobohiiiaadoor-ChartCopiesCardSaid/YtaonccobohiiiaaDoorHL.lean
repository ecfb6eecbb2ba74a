/- The laws of layer 24: light, small, awake. -/
import Derived.Test.YtaonccobohiiiaaDoorHB
import Derived.Test.YtaonccobohiiiaaDoorEv
import Derived.Test.YtaonccobohiiiaaDoorSt
import Derived.Test.YtaonccobohiiiaaDoorHC
import Derived.Test.YtaonccobohiiiaaDoorH8
import Derived.Test.YtaonccobohiiiaaDoorE3
set_option linter.unusedSimpArgs false
namespace Go.Proofs.YtaonccobohiiiaaDoor
open Go.RowKit
set_option maxRecDepth 100000
set_option maxHeartbeats 8000000

def lightStB (s : StD) : Bool := decide (s.inn.length ≤ 50) && decide (s.out.length ≤ 50)
def lightCB (c : ChD) : Bool := decide (c.states.length ≤ 60) && decide (c.trans.length ≤ 90) && decide (c.vars.length ≤ 60) && c.states.all lightStB && c.trans.all fun t => decide (t.acts.length ≤ 50)
theorem light24_con (env : Env) (c : ChD) : Con Tryd.prog env 5 [.agg (chAV c)] (B (lightCB c)) := by
  refine con_of_body Tryd.func5 rfl Tryd.call5 (by rw [Tryd.ntmps5]; simp) ?_
  rw [Tryd.ntmps5, Tryd.results5]
  by_cases l1 : 60 < c.states.length
  · have k1 : (60 : Int) < (c.states.length : Int) := by omega
    rw [show lightCB c = false by unfold lightCB; rw [decide_eq_false (show ¬ c.states.length ≤ 60 by omega)]; rfl]
    have F := And.intro chAV.eq_1 <| k1
    repeat refine st ?_
    exact aR
  have k1 : ¬ (60 : Int) < (c.states.length : Int) := by omega
  by_cases l2 : 90 < c.trans.length
  · have k2 : (90 : Int) < (c.trans.length : Int) := by omega
    rw [show lightCB c = false by unfold lightCB; rw [decide_eq_false (show ¬ c.trans.length ≤ 90 by omega)]; simp]
    have F := And.intro chAV.eq_1 <| And.intro k1 <| k2
    repeat refine st ?_
    exact aR
  have k2 : ¬ (90 : Int) < (c.trans.length : Int) := by omega
  by_cases l3 : 60 < c.vars.length
  · have k3 : (60 : Int) < (c.vars.length : Int) := by omega
    rw [show lightCB c = false by unfold lightCB; rw [decide_eq_false (show ¬ c.vars.length ≤ 60 by omega)]; simp]
    have F := And.intro chAV.eq_1 <| And.intro k1 <| And.intro k2 <| k3
    repeat refine st ?_
    exact aR
  have k3 : ¬ (60 : Int) < (c.vars.length : Int) := by omega
  have hr : lightCB c = (c.states.all lightStB && c.trans.all fun t => decide (t.acts.length ≤ 50)) := by
    unfold lightCB
    rw [decide_eq_true (show c.states.length ≤ 60 by omega), decide_eq_true (show c.trans.length ≤ 90 by omega), decide_eq_true (show c.vars.length ≤ 60 by omega)]
    rfl
  rw [hr]
  have F := And.intro chAV.eq_1 <| And.intro k1 <| And.intro k2 <| k3
  repeat refine st ?_
  refine awp_loopH (D := Nat) (fun i vs => [(1, .loc 1 (vs 1) 0 0), (3, I i)]) (fun _ _ => [(1, ⟨5, [chAV c], 26, false⟩)]) (fun i _ _ => i ≤ c.states.length ∧ (c.states.take i).all lightStB = true) (fun i => c.states.length - i) 0 ?_ ?_ ?_ ?_
  · exact ⟨Nat.zero_le _, rfl⟩
  · (simp only [go_sem, F])
  · (simp only [go_sem, F])
  rintro i ws esc ⟨hi, hall⟩
  by_cases hlt : i < c.states.length
  · obtain ⟨s, hs, _⟩ := some_at hlt
    have q1 := nlt hlt
    have q2 := wrap_succ hlt (by omega)
    by_cases m1 : 50 < s.inn.length
    · have m1' : (50 : Int) < (s.inn.length : Int) := by omega
      rw [all_not hs (show lightStB s = false by unfold lightStB; rw [decide_eq_false (show ¬ s.inn.length ≤ 50 by omega)]; rfl), Bool.false_and]
      have F := And.intro chAV.eq_1 <| And.intro stAV.eq_1 <| And.intro q1 <| And.intro q2 <| And.intro hs <| m1'
      repeat refine st ?_
      exact aR
    have m1' : ¬ (50 : Int) < (s.inn.length : Int) := by omega
    by_cases m2 : 50 < s.out.length
    · have m2' : (50 : Int) < (s.out.length : Int) := by omega
      rw [all_not hs (show lightStB s = false by unfold lightStB; rw [decide_eq_false (show ¬ s.out.length ≤ 50 by omega)]; simp), Bool.false_and]
      have F := And.intro chAV.eq_1 <| And.intro stAV.eq_1 <| And.intro q1 <| And.intro q2 <| And.intro hs <| And.intro m1' <| m2'
      repeat refine st ?_
      exact aR
    have m2' : ¬ (50 : Int) < (s.out.length : Int) := by omega
    have F := And.intro chAV.eq_1 <| And.intro stAV.eq_1 <| And.intro q1 <| And.intro q2 <| And.intro hs <| And.intro m1' <| m2'
    repeat refine st ?_
    refine ⟨i + 1, ⟨hlt, all_take_step hall hs (by unfold lightStB; rw [decide_eq_true (show s.inn.length ≤ 50 by omega), decide_eq_true (show s.out.length ≤ 50 by omega)]; rfl)⟩, ?_, ?_, ?_⟩
    · (simp only [go_sem, F])
    · (simp only [go_sem, F])
    · omega
  have q1 : ¬ (i : Int) < (c.states.length : Int) := by omega
  rw [all_end hall (by omega), Bool.true_and]
  have F := And.intro chAV.eq_1 <| q1
  repeat refine st ?_
  refine awp_loopH (D := Nat) (fun i vs => [(1, .loc 1 (vs 1) 0 0), (4, I i)]) (fun _ _ => [(1, ⟨5, [chAV c], 26, false⟩)]) (fun i _ _ => i ≤ c.trans.length ∧ (c.trans.take i).all (fun t => decide (t.acts.length ≤ 50)) = true) (fun i => c.trans.length - i) 0 ?_ ?_ ?_ ?_
  · exact ⟨Nat.zero_le _, rfl⟩
  · (simp only [go_sem, F])
  · (simp only [go_sem, F])
  try clear ws esc hi hall q1 hlt i
  rintro i ws esc ⟨hi, hall⟩
  by_cases hlt : i < c.trans.length
  · obtain ⟨t, ht, _⟩ := some_at hlt
    have q1 := nlt hlt
    have q2 := wrap_succ hlt (by omega)
    by_cases m1 : 50 < t.acts.length
    · have m1' : (50 : Int) < (t.acts.length : Int) := by omega
      rw [all_not (p := fun t : TrD => decide (t.acts.length ≤ 50)) ht (decide_eq_false (by omega))]
      have F := And.intro chAV.eq_1 <| And.intro trAV.eq_1 <| And.intro q1 <| And.intro q2 <| And.intro ht <| m1'
      repeat refine st ?_
      exact aR
    have m1' : ¬ (50 : Int) < (t.acts.length : Int) := by omega
    have F := And.intro chAV.eq_1 <| And.intro trAV.eq_1 <| And.intro q1 <| And.intro q2 <| And.intro ht <| m1'
    repeat refine st ?_
    refine ⟨i + 1, ⟨hlt, all_take_step (p := fun t : TrD => decide (t.acts.length ≤ 50)) hall ht (decide_eq_true (by omega))⟩, ?_, ?_, ?_⟩
    · (simp only [go_sem, F])
    · (simp only [go_sem, F])
    · omega
  have q1 : ¬ (i : Int) < (c.trans.length : Int) := by omega
  rw [all_end hall (by omega)]
  have F := And.intro chAV.eq_1 <| q1
  repeat refine st ?_
  exact aR
end Go.Proofs.YtaonccobohiiiaaDoor
