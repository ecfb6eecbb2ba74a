/- Contracts of what charts are told by: names, numbers, expressions, kinds: by the walk without memory. -/
import Derived.Test.YtaonccobohiiiaaDoorE1
import Derived.Test.YtaonccobohiiiaaDoorEv
import Derived.Test.YtaonccobohiiiaaDoorSt
import Derived.Test.YtaonccobohiiiaaDoorCN
import Derived.Test.YtaonccobohiiiaaDoorHP
set_option linter.unusedSimpArgs false
namespace Go.Proofs.YtaonccobohiiiaaDoor
open Go.RowKit
set_option maxRecDepth 100000
set_option maxHeartbeats 1000000

theorem tokName_con (env : Env) (l : List UInt8) (hl : l.length ≤ 9223372036854775807) : Con Tryd.prog env 32 [Sg l] (B (nameB l)) :=
  con_lit Tryd.call32 fun w S vs hE hlen hv => by
    match vs, hlen with
    | [v], _ =>
      obtain rfl := (hv 0 v _ rfl rfl).lit_inv
      refine (name_any l hl w).mono ?_
      rintro e w' ⟨rfl, rfl⟩
      exact ⟨rfl, Below.refl _ _⟩

def fitsB (n : Int) : Bool := decide (-2147483647 ≤ n) && decide (n ≤ 2147483647)
theorem vFits_con (env : Env) (n : Int) : Con Tryd.prog env 46 [I n] (B (fitsB n)) := by
  unfold fitsB
  refine con_of_body Tryd.func46 rfl Tryd.call46 (by rw [Tryd.ntmps46]; simp) ?_
  rw [Tryd.ntmps46, Tryd.results46]
  by_cases h1 : -2147483647 ≤ n <;> by_cases h2 : n ≤ 2147483647 <;>
  · have F := And.intro h1 <| h2
    repeat refine st ?_
    exact aR
/-! Expressions' kinds -/
theorem operands_cases {p : Int → Int → Prop} (h1 : ∀ k : Int, 1 ≤ k → k ≤ 4 → ¬ k < 1 → ¬ 19 < k → ¬ 4 < k → p k 0) (h5 : p 5 1) (h6 : p 6 1)
    (h7 : ∀ k : Int, 1 ≤ k → ¬ k ≤ 4 → (k == 5) = false → (k == 6) = false → 7 ≤ k → k ≤ 19 → ¬ k < 1 → ¬ 19 < k → ¬ k ≤ 6 → p k 2)
    (h8 : ∀ k : Int, ¬ 1 ≤ k → (k == 5) = false → (k == 6) = false → ¬ 7 ≤ k → k < 1 → p k (-1))
    (h9 : ∀ k : Int, 1 ≤ k → ¬ k ≤ 4 → (k == 5) = false → (k == 6) = false → 7 ≤ k → ¬ k ≤ 19 → ¬ k < 1 → 19 < k → p k (-1)) (k : Int) : p k (operandsI k) := by
  have ne : ∀ a b : Int, a ≠ b → (a == b) = false := fun a b h => by simpa using h
  by_cases a : 1 ≤ k
  · by_cases b : k ≤ 4
    · rw [show operandsI k = 0 by unfold operandsI; rw [if_pos ⟨a, b⟩]]
      exact h1 k a b (by omega) (by omega) (by omega)
    · by_cases c : k = 5
      · subst c; exact h5
      · by_cases d : k = 6
        · subst d; exact h6
        · by_cases e : k ≤ 19
          · rw [show operandsI k = 2 by unfold operandsI; rw [if_neg (by omega), if_neg (by omega), if_pos (by omega)]]
            exact h7 k a b (ne _ _ c) (ne _ _ d) (by omega) e (by omega) (by omega) (by omega)
          · rw [show operandsI k = -1 by unfold operandsI; rw [if_neg (by omega), if_neg (by omega), if_neg (by omega)]]
            exact h9 k a b (ne _ _ c) (ne _ _ d) (by omega) e (by omega) (by omega)
  · rw [show operandsI k = -1 by unfold operandsI; rw [if_neg (by omega), if_neg (by omega), if_neg (by omega)]]
    exact h8 k a (ne _ _ (by omega)) (ne _ _ (by omega)) (by omega) (by omega)
theorem pOperands_con (env : Env) (k : Int) : Con Tryd.prog env 80 [I k] (I (operandsI k)) := by
  refine operands_cases (p := fun k r => Con Tryd.prog env 80 [I k] (I r)) ?_ ?_ ?_ ?_ ?_ ?_ k
  · intro k a1 a2 a3 a4 a5
    refine con_of_body Tryd.func80 rfl Tryd.call80 (by rw [Tryd.ntmps80]; simp) ?_
    rw [Tryd.ntmps80, Tryd.results80]
    have F := And.intro a1 <| And.intro a2 <| And.intro a3 <| And.intro a4 <| a5
    repeat refine st ?_
    exact aR
  · refine con_of_body Tryd.func80 rfl Tryd.call80 (by rw [Tryd.ntmps80]; simp) ?_
    rw [Tryd.ntmps80, Tryd.results80]
    repeat refine st0 ?_
    exact aR0
  · refine con_of_body Tryd.func80 rfl Tryd.call80 (by rw [Tryd.ntmps80]; simp) ?_
    rw [Tryd.ntmps80, Tryd.results80]
    repeat refine st0 ?_
    exact aR0
  · intro k a1 a2 a3 a4 a5 a6 a7 a8 a9
    refine con_of_body Tryd.func80 rfl Tryd.call80 (by rw [Tryd.ntmps80]; simp) ?_
    rw [Tryd.ntmps80, Tryd.results80]
    have F := And.intro a1 <| And.intro a2 <| And.intro a3 <| And.intro a4 <| And.intro a5 <| And.intro a6 <| And.intro a7 <| And.intro a8 <| a9
    repeat refine st ?_
    exact aR
  · intro k a1 a2 a3 a4 a5
    refine con_of_body Tryd.func80 rfl Tryd.call80 (by rw [Tryd.ntmps80]; simp) ?_
    rw [Tryd.ntmps80, Tryd.results80]
    have F := And.intro a1 <| And.intro a2 <| And.intro a3 <| And.intro a4 <| a5
    repeat refine st ?_
    exact aR
  · intro k a1 a2 a3 a4 a5 a6 a7 a8
    refine con_of_body Tryd.func80 rfl Tryd.call80 (by rw [Tryd.ntmps80]; simp) ?_
    rw [Tryd.ntmps80, Tryd.results80]
    have F := And.intro a1 <| And.intro a2 <| And.intro a3 <| And.intro a4 <| And.intro a5 <| And.intro a6 <| And.intro a7 <| a8
    repeat refine st ?_
    exact aR
theorem numB_cases {p : OpD → Bool → Prop} (vs ss : Int)
    (h1 : ∀ n : Int, p ⟨1, n⟩ (decide (0 ≤ n) && decide (n ≤ 2147483647))) (h2 : ∀ n : Int, p ⟨2, n⟩ (decide (0 ≤ n) && decide (n < vs))) (h4 : ∀ n : Int, p ⟨4, n⟩ (decide (0 ≤ n) && decide (n < ss)))
    (h : ∀ k n : Int, (k == 1) = false → (k == 2) = false → (k == 4) = false → p ⟨k, n⟩ (decide (n = 0))) (o : OpD) : p o (numB o vs ss) := by
  have ne : ∀ a b : Int, a ≠ b → (a == b) = false := fun a b h => by simpa using h
  obtain ⟨k, n⟩ := o
  unfold numB
  simp only [Bool.decide_and]
  by_cases a : k = 1
  · subst a; simpa using h1 n
  by_cases b : k = 2
  · subst b; simpa using h2 n
  by_cases c : k = 4
  · subst c; simpa using h4 n
  rw [if_neg a, if_neg b, if_neg c]
  exact h k n (ne _ _ a) (ne _ _ b) (ne _ _ c)
theorem pNumber_con (env : Env) (o : OpD) (vs ss : Int) : Con Tryd.prog env 81 [.agg (opAV o), I vs, I ss] (B (numB o vs ss)) := by
  refine numB_cases (p := fun o r => Con Tryd.prog env 81 [.agg (opAV o), I vs, I ss] (B r)) vs ss (fun n => ?_) (fun n => ?_) (fun n => ?_) (fun k n a1 a2 a3 => ?_) o
  · refine con_of_body Tryd.func81 rfl Tryd.call81 (by rw [Tryd.ntmps81]; simp) ?_
    rw [Tryd.ntmps81, Tryd.results81]
    by_cases h1 : 0 ≤ n <;> by_cases h2 : n ≤ 2147483647 <;>
    · have h3 : (n < 2147483648) = (n ≤ 2147483647) := by rw [eq_iff_iff]; omega
      have F := And.intro opAV.eq_1 <| And.intro h1 <| And.intro h2 <| h3
      repeat refine st ?_
      exact aR
  · refine con_of_body Tryd.func81 rfl Tryd.call81 (by rw [Tryd.ntmps81]; simp) ?_
    rw [Tryd.ntmps81, Tryd.results81]
    by_cases h1 : 0 ≤ n <;> by_cases h2 : n < vs <;>
    · have F := And.intro opAV.eq_1 <| And.intro h1 <| h2
      repeat refine st ?_
      exact aR
  · refine con_of_body Tryd.func81 rfl Tryd.call81 (by rw [Tryd.ntmps81]; simp) ?_
    rw [Tryd.ntmps81, Tryd.results81]
    by_cases h1 : 0 ≤ n <;> by_cases h2 : n < ss <;>
    · have F := And.intro opAV.eq_1 <| And.intro h1 <| h2
      repeat refine st ?_
      exact aR
  · refine con_of_body Tryd.func81 rfl Tryd.call81 (by rw [Tryd.ntmps81]; simp) ?_
    rw [Tryd.ntmps81, Tryd.results81]
    by_cases h1 : 0 ≤ n <;> by_cases h2 : n < 1 <;>
    · have h3 : (n = 0) = (0 ≤ n ∧ n < 1) := by rw [eq_iff_iff]; omega
      have F := And.intro opAV.eq_1 <| And.intro h1 <| And.intro h2 <| And.intro h3 <| And.intro a1 <| And.intro a2 <| a3
      repeat refine st ?_
      exact aR
/-! States' kinds -/
theorem pHistory_con (env : Env) (s : StD) : Con Tryd.prog env 78 [.agg (stAV s)] (B (memyB s)) := by
  unfold memyB
  refine con_of_body Tryd.func78 rfl Tryd.call78 (by rw [Tryd.ntmps78]; simp) ?_
  rw [Tryd.ntmps78, Tryd.results78]
  cases h1 : (s.kind == 4) <;> cases h2 : (s.kind == 5) <;>
  · have F := And.intro stAV.eq_1 <| And.intro h1 <| h2
    repeat refine st ?_
    exact aR
theorem pNormal_con (env : Env) (s : StD) : Con Tryd.prog env 37 [.agg (stAV s)] (B (normB s)) := by
  unfold normB
  refine con_of_body Tryd.func37 rfl Tryd.call37 (by rw [Tryd.ntmps37]; simp) ?_
  rw [Tryd.ntmps37, Tryd.results37]
  cases h1 : (s.kind == 1) <;> cases h2 : (s.kind == 2) <;>
  · have F := And.intro stAV.eq_1 <| And.intro h1 <| h2
    repeat refine st ?_
    exact aR
end Go.Proofs.YtaonccobohiiiaaDoor
