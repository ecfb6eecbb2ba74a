/- Contracts of what says whether charts are the same: by the walk without memory. -/
import Derived.Test.YtlmekdfleciejaaGreatDoorM19
import Derived.Test.YtlmekdfleciejaaGreatDoorM6
import Derived.Test.YtlmekdfleciejaaGreatDoorM8
import Derived.Test.YtlmekdfleciejaaGreatDoorM11
import Derived.Test.YtlmekdfleciejaaGreatDoorM12
set_option linter.unusedSimpArgs false
namespace Go.Proofs.YtlmekdfleciejaaGreatDoor
open Go.RowKit
set_option maxRecDepth 100000
set_option maxHeartbeats 1000000
theorem tokName_con (env : Env) (l : List UInt8) (hl : l.length ≤ 9223372036854775807) : Con Tryz.prog env 177 [Sg l] (B (nameB l)) :=
  con_lit Tryz.call177 fun w S vs hE hlen hv => by
    match vs, hlen with
    | [v], _ =>
      obtain rfl := (hv 0 v _ rfl rfl).lit_inv
      refine (name_any l hl w).mono ?_
      rintro e w' ⟨rfl, rfl⟩
      exact ⟨rfl, Below.refl _ _⟩
def fitsB (n : Int) : Bool := decide (-2147483647 ≤ n) && decide (n ≤ 2147483647)
theorem vFits_con (env : Env) (n : Int) : Con Tryz.prog env 217 [I n] (B (fitsB n)) := by
  unfold fitsB
  refine con_of_body Tryz.func217 rfl Tryz.call217 (by rw [Tryz.ntmps217]; simp) ?_
  rw [Tryz.ntmps217, Tryz.results217]
  by_cases h1 : -2147483647 ≤ n <;> by_cases h2 : n ≤ 2147483647 <;>
  · have F := And.intro h1 <| h2
    repeat refine st ?_
    exact aR
theorem rFits_con (env : Env) (n : Int) : Con Tryz.prog env 143 [I n] (B (fitsB n)) := by
  unfold fitsB
  refine con_of_body Tryz.func143 rfl Tryz.call143 (by rw [Tryz.ntmps143]; simp) ?_
  rw [Tryz.ntmps143, Tryz.results143]
  by_cases h1 : -2147483647 ≤ n <;> by_cases h2 : n ≤ 2147483647 <;>
  · have F := And.intro h1 <| h2
    repeat refine st ?_
    exact aR
/-! Expressions' kinds -/
theorem operands_cases {p : Int → Int → Prop} (h1 : ∀ k : Int, 1 ≤ k → k ≤ 4 → ¬ k < 1 → ¬ 19 < k → ¬ 4 < k → p k 0) (h5 : p 5 1) (h6 : p 6 1)
    (h7 : ∀ k : Int, 1 ≤ k → ¬ k ≤ 4 → (k == 5) = false → (k == 6) = false → 7 ≤ k → k ≤ 19 → ¬ k < 1 → ¬ 19 < k → ¬ k ≤ 6 → p k 2)
    (h8 : ∀ k : Int, ¬ 1 ≤ k → (k == 5) = false → (k == 6) = false → ¬ 7 ≤ k → k < 1 → p k (-1))
    (h9 : ∀ k : Int, 1 ≤ k → ¬ k ≤ 4 → (k == 5) = false → (k == 6) = false → 7 ≤ k → ¬ k ≤ 19 → ¬ k < 1 → 19 < k → p k (-1)) (k : Int) : p k (operandsI k) := by
  have ne : ∀ a b : Int, a ≠ b → (a == b) = false := fun a b h => by simpa using h
  by_cases a : 1 ≤ k
  · by_cases b : k ≤ 4
    · rw [show operandsI k = 0 by unfold operandsI; rw [if_pos ⟨a, b⟩]]
      exact h1 k a b (by omega) (by omega) (by omega)
    · by_cases c : k = 5
      · subst c; exact h5
      · by_cases d : k = 6
        · subst d; exact h6
        · by_cases e : k ≤ 19
          · rw [show operandsI k = 2 by unfold operandsI; rw [if_neg (by omega), if_neg (by omega), if_pos (by omega)]]
            exact h7 k a b (ne _ _ c) (ne _ _ d) (by omega) e (by omega) (by omega) (by omega)
          · rw [show operandsI k = -1 by unfold operandsI; rw [if_neg (by omega), if_neg (by omega), if_neg (by omega)]]
            exact h9 k a b (ne _ _ c) (ne _ _ d) (by omega) e (by omega) (by omega)
  · rw [show operandsI k = -1 by unfold operandsI; rw [if_neg (by omega), if_neg (by omega), if_neg (by omega)]]
    exact h8 k a (ne _ _ (by omega)) (ne _ _ (by omega)) (by omega) (by omega)
theorem pOperands_con (env : Env) (k : Int) : Con Tryz.prog env 250 [I k] (I (operandsI k)) := by
  refine operands_cases (p := fun k r => Con Tryz.prog env 250 [I k] (I r)) ?_ ?_ ?_ ?_ ?_ ?_ k
  · intro k a1 a2 a3 a4 a5
    refine con_of_body Tryz.func250 rfl Tryz.call250 (by rw [Tryz.ntmps250]; simp) ?_
    rw [Tryz.ntmps250, Tryz.results250]
    have F := And.intro a1 <| And.intro a2 <| And.intro a3 <| And.intro a4 <| a5
    repeat refine st ?_
    exact aR
  · refine con_of_body Tryz.func250 rfl Tryz.call250 (by rw [Tryz.ntmps250]; simp) ?_
    rw [Tryz.ntmps250, Tryz.results250]
    repeat refine st0 ?_
    exact aR0
  · refine con_of_body Tryz.func250 rfl Tryz.call250 (by rw [Tryz.ntmps250]; simp) ?_
    rw [Tryz.ntmps250, Tryz.results250]
    repeat refine st0 ?_
    exact aR0
  · intro k a1 a2 a3 a4 a5 a6 a7 a8 a9
    refine con_of_body Tryz.func250 rfl Tryz.call250 (by rw [Tryz.ntmps250]; simp) ?_
    rw [Tryz.ntmps250, Tryz.results250]
    have F := And.intro a1 <| And.intro a2 <| And.intro a3 <| And.intro a4 <| And.intro a5 <| And.intro a6 <| And.intro a7 <| And.intro a8 <| a9
    repeat refine st ?_
    exact aR
  · intro k a1 a2 a3 a4 a5
    refine con_of_body Tryz.func250 rfl Tryz.call250 (by rw [Tryz.ntmps250]; simp) ?_
    rw [Tryz.ntmps250, Tryz.results250]
    have F := And.intro a1 <| And.intro a2 <| And.intro a3 <| And.intro a4 <| a5
    repeat refine st ?_
    exact aR
  · intro k a1 a2 a3 a4 a5 a6 a7 a8
    refine con_of_body Tryz.func250 rfl Tryz.call250 (by rw [Tryz.ntmps250]; simp) ?_
    rw [Tryz.ntmps250, Tryz.results250]
    have F := And.intro a1 <| And.intro a2 <| And.intro a3 <| And.intro a4 <| And.intro a5 <| And.intro a6 <| And.intro a7 <| a8
    repeat refine st ?_
    exact aR
theorem rOperands_con (env : Env) (k : Int) : Con Tryz.prog env 231 [I k] (I (operandsI k)) := by
  refine operands_cases (p := fun k r => Con Tryz.prog env 231 [I k] (I r)) ?_ ?_ ?_ ?_ ?_ ?_ k
  · intro k a1 a2 a3 a4 a5
    refine con_of_body Tryz.func231 rfl Tryz.call231 (by rw [Tryz.ntmps231]; simp) ?_
    rw [Tryz.ntmps231, Tryz.results231]
    have F := And.intro a1 <| And.intro a2 <| And.intro a3 <| And.intro a4 <| a5
    repeat refine st ?_
    exact aR
  · refine con_of_body Tryz.func231 rfl Tryz.call231 (by rw [Tryz.ntmps231]; simp) ?_
    rw [Tryz.ntmps231, Tryz.results231]
    repeat refine st0 ?_
    exact aR0
  · refine con_of_body Tryz.func231 rfl Tryz.call231 (by rw [Tryz.ntmps231]; simp) ?_
    rw [Tryz.ntmps231, Tryz.results231]
    repeat refine st0 ?_
    exact aR0
  · intro k a1 a2 a3 a4 a5 a6 a7 a8 a9
    refine con_of_body Tryz.func231 rfl Tryz.call231 (by rw [Tryz.ntmps231]; simp) ?_
    rw [Tryz.ntmps231, Tryz.results231]
    have F := And.intro a1 <| And.intro a2 <| And.intro a3 <| And.intro a4 <| And.intro a5 <| And.intro a6 <| And.intro a7 <| And.intro a8 <| a9
    repeat refine st ?_
    exact aR
  · intro k a1 a2 a3 a4 a5
    refine con_of_body Tryz.func231 rfl Tryz.call231 (by rw [Tryz.ntmps231]; simp) ?_
    rw [Tryz.ntmps231, Tryz.results231]
    have F := And.intro a1 <| And.intro a2 <| And.intro a3 <| And.intro a4 <| a5
    repeat refine st ?_
    exact aR
  · intro k a1 a2 a3 a4 a5 a6 a7 a8
    refine con_of_body Tryz.func231 rfl Tryz.call231 (by rw [Tryz.ntmps231]; simp) ?_
    rw [Tryz.ntmps231, Tryz.results231]
    have F := And.intro a1 <| And.intro a2 <| And.intro a3 <| And.intro a4 <| And.intro a5 <| And.intro a6 <| And.intro a7 <| a8
    repeat refine st ?_
    exact aR
theorem numB_cases {p : OpD → Bool → Prop} (vs ss : Int)
    (h1 : ∀ n : Int, p ⟨1, n⟩ (decide (0 ≤ n) && decide (n ≤ 2147483647))) (h2 : ∀ n : Int, p ⟨2, n⟩ (decide (0 ≤ n) && decide (n < vs))) (h4 : ∀ n : Int, p ⟨4, n⟩ (decide (0 ≤ n) && decide (n < ss)))
    (h : ∀ k n : Int, (k == 1) = false → (k == 2) = false → (k == 4) = false → p ⟨k, n⟩ (decide (n = 0))) (o : OpD) : p o (numB o vs ss) := by
  have ne : ∀ a b : Int, a ≠ b → (a == b) = false := fun a b h => by simpa using h
  obtain ⟨k, n⟩ := o
  unfold numB
  simp only [Bool.decide_and]
  by_cases a : k = 1
  · subst a; simpa using h1 n
  by_cases b : k = 2
  · subst b; simpa using h2 n
  by_cases c : k = 4
  · subst c; simpa using h4 n
  rw [if_neg a, if_neg b, if_neg c]
  exact h k n (ne _ _ a) (ne _ _ b) (ne _ _ c)
theorem pNumber_con (env : Env) (o : OpD) (vs ss : Int) : Con Tryz.prog env 251 [.agg (opAV o), I vs, I ss] (B (numB o vs ss)) := by
  refine numB_cases (p := fun o r => Con Tryz.prog env 251 [.agg (opAV o), I vs, I ss] (B r)) vs ss (fun n => ?_) (fun n => ?_) (fun n => ?_) (fun k n a1 a2 a3 => ?_) o
  · refine con_of_body Tryz.func251 rfl Tryz.call251 (by rw [Tryz.ntmps251]; simp) ?_
    rw [Tryz.ntmps251, Tryz.results251]
    by_cases h1 : 0 ≤ n <;> by_cases h2 : n ≤ 2147483647 <;>
    · have h3 : (n < 2147483648) = (n ≤ 2147483647) := by rw [eq_iff_iff]; omega
      have F := And.intro opAV.eq_1 <| And.intro h1 <| And.intro h2 <| h3
      repeat refine st ?_
      exact aR
  · refine con_of_body Tryz.func251 rfl Tryz.call251 (by rw [Tryz.ntmps251]; simp) ?_
    rw [Tryz.ntmps251, Tryz.results251]
    by_cases h1 : 0 ≤ n <;> by_cases h2 : n < vs <;>
    · have F := And.intro opAV.eq_1 <| And.intro h1 <| h2
      repeat refine st ?_
      exact aR
  · refine con_of_body Tryz.func251 rfl Tryz.call251 (by rw [Tryz.ntmps251]; simp) ?_
    rw [Tryz.ntmps251, Tryz.results251]
    by_cases h1 : 0 ≤ n <;> by_cases h2 : n < ss <;>
    · have F := And.intro opAV.eq_1 <| And.intro h1 <| h2
      repeat refine st ?_
      exact aR
  · refine con_of_body Tryz.func251 rfl Tryz.call251 (by rw [Tryz.ntmps251]; simp) ?_
    rw [Tryz.ntmps251, Tryz.results251]
    by_cases h1 : 0 ≤ n <;> by_cases h2 : n < 1 <;>
    · have h3 : (n = 0) = (0 ≤ n ∧ n < 1) := by rw [eq_iff_iff]; omega
      have F := And.intro opAV.eq_1 <| And.intro h1 <| And.intro h2 <| And.intro h3 <| And.intro a1 <| And.intro a2 <| a3
      repeat refine st ?_
      exact aR
theorem rNumber_con (env : Env) (o : OpD) (vs ss : Int) : Con Tryz.prog env 232 [.agg (opAV o), I vs, I ss] (B (numB o vs ss)) := by
  refine numB_cases (p := fun o r => Con Tryz.prog env 232 [.agg (opAV o), I vs, I ss] (B r)) vs ss (fun n => ?_) (fun n => ?_) (fun n => ?_) (fun k n a1 a2 a3 => ?_) o
  · refine con_of_body Tryz.func232 rfl Tryz.call232 (by rw [Tryz.ntmps232]; simp) ?_
    rw [Tryz.ntmps232, Tryz.results232]
    by_cases h1 : 0 ≤ n <;> by_cases h2 : n ≤ 2147483647 <;>
    · have F := And.intro opAV.eq_1 <| And.intro h1 <| h2
      repeat refine st ?_
      exact aR
  · refine con_of_body Tryz.func232 rfl Tryz.call232 (by rw [Tryz.ntmps232]; simp) ?_
    rw [Tryz.ntmps232, Tryz.results232]
    by_cases h1 : 0 ≤ n <;> by_cases h2 : n < vs <;>
    · have F := And.intro opAV.eq_1 <| And.intro h1 <| h2
      repeat refine st ?_
      exact aR
  · refine con_of_body Tryz.func232 rfl Tryz.call232 (by rw [Tryz.ntmps232]; simp) ?_
    rw [Tryz.ntmps232, Tryz.results232]
    by_cases h1 : 0 ≤ n <;> by_cases h2 : n < ss <;>
    · have F := And.intro opAV.eq_1 <| And.intro h1 <| h2
      repeat refine st ?_
      exact aR
  · refine con_of_body Tryz.func232 rfl Tryz.call232 (by rw [Tryz.ntmps232]; simp) ?_
    rw [Tryz.ntmps232, Tryz.results232]
    have h3 : decide (n = 0) = (n == 0) := by rw [Bool.eq_iff_iff]; simp
    rw [h3]
    have F := And.intro opAV.eq_1 <| And.intro a1 <| And.intro a2 <| a3
    repeat refine st ?_
    exact aR
/-! States' kinds -/
theorem pHistory_con (env : Env) (s : StD) : Con Tryz.prog env 134 [.agg (stAV s)] (B (memyB s)) := by
  unfold memyB
  refine con_of_body Tryz.func134 rfl Tryz.call134 (by rw [Tryz.ntmps134]; simp) ?_
  rw [Tryz.ntmps134, Tryz.results134]
  cases h1 : (s.kind == 4) <;> cases h2 : (s.kind == 5) <;>
  · have F := And.intro stAV.eq_1 <| And.intro h1 <| h2
    repeat refine st ?_
    exact aR
theorem rMemory_con (env : Env) (s : StD) : Con Tryz.prog env 50 [.agg (stAV s)] (B (memyB s)) := by
  unfold memyB
  refine con_of_body Tryz.func50 rfl Tryz.call50 (by rw [Tryz.ntmps50]; simp) ?_
  rw [Tryz.ntmps50, Tryz.results50]
  cases h1 : (s.kind == 4) <;> cases h2 : (s.kind == 5) <;>
  · have F := And.intro stAV.eq_1 <| And.intro h1 <| h2
    repeat refine st ?_
    exact aR
theorem pNormal_con (env : Env) (s : StD) : Con Tryz.prog env 182 [.agg (stAV s)] (B (normB s)) := by
  unfold normB
  refine con_of_body Tryz.func182 rfl Tryz.call182 (by rw [Tryz.ntmps182]; simp) ?_
  rw [Tryz.ntmps182, Tryz.results182]
  cases h1 : (s.kind == 1) <;> cases h2 : (s.kind == 2) <;>
  · have F := And.intro stAV.eq_1 <| And.intro h1 <| h2
    repeat refine st ?_
    exact aR
theorem rNormal_con (env : Env) (s : StD) : Con Tryz.prog env 95 [.agg (stAV s)] (B (normB s)) := by
  unfold normB
  refine con_of_body Tryz.func95 rfl Tryz.call95 (by rw [Tryz.ntmps95]; simp) ?_
  rw [Tryz.ntmps95, Tryz.results95]
  cases h1 : (s.kind == 1) <;> cases h2 : (s.kind == 2) <;>
  · have F := And.intro stAV.eq_1 <| And.intro h1 <| h2
    repeat refine st ?_
    exact aR
end Go.Proofs.YtlmekdfleciejaaGreatDoor
set_option linter.unusedSimpArgs false
namespace Go.Proofs.YtlmekdfleciejaaGreatDoor
open Go.RowKit
set_option maxRecDepth 100000
set_option maxHeartbeats 8000000
theorem rSameOps_con (env : Env) (a b : List OpD) (hn : a.length ≤ 9223372036854775807) : Con Tryz.prog env 75 [opsAV a, opsAV b] (B (a == b)) := by
  refine con_of_body Tryz.func75 rfl Tryz.call75 (by rw [Tryz.ntmps75]; simp) ?_
  rw [Tryz.ntmps75, Tryz.results75]
  by_cases hl : a.length = b.length
  case neg =>
    have k0 := ibne hl
    rw [unlike_len hl]
    have F := And.intro k0 <| bneA
    repeat refine st ?_
    exact aR
  have k0 : ((a.length : Int) == (b.length : Int)) = true := by rw [hl]; simp
  have F := And.intro k0 <| bneA
  repeat refine st ?_
  refine awp_loopH (D := Nat) (fun i _ => [(0, opsAV a), (1, opsAV b), (5, I i)]) (fun _ _ => []) (fun i _ _ => i ≤ a.length ∧ a.take i = b.take i) (fun i => a.length - i) 0 ?_ ?_ ?_ ?_
  · exact ⟨Nat.zero_le _, rfl⟩
  · (simp only [go_sem, F])
  · (simp only [go_sem, F])
  rintro i ws esc ⟨hi, ht⟩
  by_cases hlt : i < a.length
  · obtain ⟨x, hx, _⟩ := some_at hlt
    obtain ⟨y, hy, _⟩ := some_at (show i < b.length by omega)
    have k1 := nlt hlt
    have k3 := nlt (show i < b.length by omega)
    have k2 := wrap_succ hlt hn
    cases e : (x == y)
    · rw [unlike_at hx hy (by simpa using e)]
      have e2 : (x.kind == y.kind && x.n == y.n) = false := by rw [← op_eq x y]; exact e
      have F := And.intro k1 <| And.intro k2 <| And.intro k3 <| And.intro hx <| And.intro hy <| And.intro opAV.eq_1 <| And.intro e2 <| bneA
      repeat refine st ?_
      exact aR
    · have e2 : (x.kind == y.kind && x.n == y.n) = true := by rw [← op_eq x y]; exact e
      have F := And.intro k1 <| And.intro k2 <| And.intro k3 <| And.intro hx <| And.intro hy <| And.intro opAV.eq_1 <| And.intro e2 <| bneA
      repeat refine st ?_
      refine ⟨i + 1, ⟨hlt, take_same ht hx hy (by simpa using e)⟩, ?_, ?_, ?_⟩
      · (simp only [go_sem, F])
      · (simp only [go_sem, F])
      · omega
  · have k1 : ¬ (i : Int) < (a.length : Int) := by omega
    rw [same_all ht (by omega) (by omega)]
    have F := k1
    repeat refine st ?_
    exact aR
end Go.Proofs.YtlmekdfleciejaaGreatDoor
