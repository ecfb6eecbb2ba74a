/- Contracts of the document's saying whether charts are the same: by the walk without memory. -/
import Derived.Test.YthffdneigmbgfaaGreatDoorM5
import Derived.Test.YthffdneigmbgfaaGreatDoorM7
import Derived.Test.YthffdneigmbgfaaGreatDoorM10
import Derived.Test.YthffdneigmbgfaaGreatDoorM14
set_option linter.unusedSimpArgs false
namespace Go.Proofs.YthffdneigmbgfaaGreatDoor
open Go.RowKit
set_option maxRecDepth 100000
set_option maxHeartbeats 1000000
theorem w_letter_con (env : Env) (c : UInt8) : Con Tryz.prog env 135 [.lit (.int .u8 (c.toNat : Int))] (B (letterI c.toNat)) := by
  refine con_of_body Tryz.func135 rfl Tryz.call135 (by rw [Tryz.ntmps135]; simp) ?_
  rw [Tryz.ntmps135, Tryz.results135]
  have hc := c.toNat_lt
  generalize c.toNat = n at *
  unfold letterI
  by_cases h1 : (n : Int) = 95
  · have e : decide ((n : Int) = 95 ∨ (97 ≤ (n : Int) ∧ (n : Int) ≤ 122) ∨ (65 ≤ (n : Int) ∧ (n : Int) ≤ 90)) = true := by simp; omega
    rw [e]
    have h1 : ((n : Int) == 95) = true := by simp; omega
    have F := h1
    repeat refine sg ?_
    exact aR
  · have h1' : ((n : Int) == 95) = false := by simp; omega
    by_cases h2 : (97 : Int) ≤ (n : Int)
    · by_cases h3 : (n : Int) ≤ 122
      · have e : decide ((n : Int) = 95 ∨ (97 ≤ (n : Int) ∧ (n : Int) ≤ 122) ∨ (65 ≤ (n : Int) ∧ (n : Int) ≤ 90)) = true := by simp; omega
        rw [e]
        have F := And.intro h1' <| And.intro h2 <| h3
        repeat refine sg ?_
        exact aR
      · have e : decide ((n : Int) = 95 ∨ (97 ≤ (n : Int) ∧ (n : Int) ≤ 122) ∨ (65 ≤ (n : Int) ∧ (n : Int) ≤ 90)) = false := by simp; omega
        have h4 : (65 : Int) ≤ (n : Int) := by omega
        have h5 : ¬ (n : Int) ≤ 90 := by omega
        rw [e]
        have F := And.intro h1' <| And.intro h2 <| And.intro h3 <| And.intro h4 <| h5
        repeat refine sg ?_
        exact aR
    · by_cases h4 : (65 : Int) ≤ (n : Int)
      · by_cases h5 : (n : Int) ≤ 90
        · have e : decide ((n : Int) = 95 ∨ (97 ≤ (n : Int) ∧ (n : Int) ≤ 122) ∨ (65 ≤ (n : Int) ∧ (n : Int) ≤ 90)) = true := by simp; omega
          rw [e]
          have F := And.intro h1' <| And.intro h2 <| And.intro h4 <| h5
          repeat refine sg ?_
          exact aR
        · have e : decide ((n : Int) = 95 ∨ (97 ≤ (n : Int) ∧ (n : Int) ≤ 122) ∨ (65 ≤ (n : Int) ∧ (n : Int) ≤ 90)) = false := by simp; omega
          rw [e]
          have F := And.intro h1' <| And.intro h2 <| And.intro h4 <| h5
          repeat refine sg ?_
          exact aR
      · have e : decide ((n : Int) = 95 ∨ (97 ≤ (n : Int) ∧ (n : Int) ≤ 122) ∨ (65 ≤ (n : Int) ∧ (n : Int) ≤ 90)) = false := by simp; omega
        rw [e]
        have F := And.intro h1' <| And.intro h2 <| h4
        repeat refine sg ?_
        exact aR
theorem w_digit_con (env : Env) (c : UInt8) : Con Tryz.prog env 136 [.lit (.int .u8 (c.toNat : Int))] (B (digitI c.toNat)) := by
  refine con_of_body Tryz.func136 rfl Tryz.call136 (by rw [Tryz.ntmps136]; simp) ?_
  rw [Tryz.ntmps136, Tryz.results136]
  generalize c.toNat = n at *
  unfold digitI
  by_cases h2 : (48 : Int) ≤ (n : Int)
  · by_cases h3 : (n : Int) ≤ 57
    · rw [decide_eq_true ⟨h2, h3⟩]
      have F := And.intro h2 <| h3
      repeat refine sg ?_
      exact aR
    · rw [decide_eq_false (by omega)]
      have F := And.intro h2 <| h3
      repeat refine sg ?_
      exact aR
  · rw [decide_eq_false (by omega)]
    have F := h2
    repeat refine sg ?_
    exact aR
theorem all_take_snoc {l : List UInt8} {p : UInt8 → Bool} {i : Nat} (h : (l.take i).all p = true) (hi : i < l.length) (hp : p l[i] = true) : (l.take (i + 1)).all p = true := by
  rw [List.take_succ_eq_append_getElem hi, List.all_append, h]
  simp [hp]
theorem all_no {l : List UInt8} {p : UInt8 → Bool} {i : Nat} (hi : i < l.length) (hp : p l[i] = false) : l.all p = false := by
  rw [Bool.eq_false_iff]
  intro h
  rw [List.all_eq_true] at h
  rw [h _ (List.getElem_mem hi)] at hp
  cases hp
theorem w_name_con (env : Env) (l : List UInt8) : Con Tryz.prog env 104 [Sg l] (B (nameB l)) := by
  refine con_of_body Tryz.func104 rfl Tryz.call104 (by rw [Tryz.ntmps104]; simp) ?_
  rw [Tryz.ntmps104, Tryz.results104]
  by_cases h0 : l = []
  · subst h0
    repeat refine sg0 ?_
    refine oY (by simp only [go_sem]; exact iR) ?_
    repeat refine sg0 ?_
    (refine awp_ret ?_; show (resRd _ _ _).run _ = some _; simp only [go_sem])
    rfl
  obtain ⟨c, hc⟩ : ∃ c, l[0]? = some c := ⟨l[0]'(List.length_pos_iff.2 h0), List.getElem?_eq_getElem _⟩
  have g0 : ((l.length : Int) == 0) = false := by
    have := List.length_pos_iff.2 h0
    simp; exact h0
  by_cases h1 : l.length ≤ 32
  · have g1 : ¬ 32 < (l.length : Int) := by omega
    by_cases h2 : letterI c.toNat = true
    · have hnm : nameB l = l.all fun c => innerI c.toNat := by
        cases l with
        | nil => exact (h0 rfl).elim
        | cons d r =>
          simp only [List.getElem?_cons_zero, Option.some.injEq] at hc
          subst hc
          unfold nameB
          simp only [h2, decide_eq_true h1, Bool.true_and]
      have F := And.intro g0 <| And.intro g1 <| And.intro hc <| h2
      repeat refine sg ?_
      refine cC (w_letter_con env c) ?_
      repeat refine sg ?_
      refine oN (by simp only [go_sem, F]; exact iR) ?_
      repeat refine sg ?_
      refine awp_loopH (D := Nat) (fun i _ => [(0, Sg l), (3, I i)]) (fun _ _ => []) (fun i _ _ => i ≤ l.length ∧ ((l.take i).all fun c => innerI c.toNat) = true) (fun i => l.length - i) 0 ?_ ?_ ?_ ?_
      · exact ⟨Nat.zero_le _, rfl⟩
      · (simp only [go_sem, F])
      · (simp only [go_sem, F])
      rintro i vs esc ⟨hi, ha⟩
      by_cases hlt : i < l.length
      · have g2 := nlt hlt
        have g3 := wrap_succ hlt (by omega)
        have g4 : l[i]? = some l[i] := List.getElem?_eq_getElem hlt
        have hnxt := fun hp => all_take_snoc (p := fun c => innerI c.toNat) ha hlt hp
        have hnot := fun hp => all_no (p := fun c => innerI c.toNat) hlt hp
        try simp only at hnxt
        try simp only at hnot
        generalize l[i] = x at *
        by_cases h5 : letterI x.toNat = true
        ·
          have F := And.intro g2 <| And.intro g3 <| And.intro g4 <| h5
          repeat refine sg ?_
          refine oY (by simp only [go_sem, F]; exact iR) ?_
          repeat refine sg ?_
          refine cC (w_letter_con env x) ?_
          repeat refine sg ?_
          refine oN (by simp only [go_sem, F]; exact iR) ?_
          repeat refine sg ?_
          refine ⟨i + 1, ⟨hlt, hnxt (by simp [innerI, h5])⟩, ?_, ?_, ?_⟩
          · (simp only [go_sem, F])
          · (simp only [go_sem, F])
          · omega
        have h5 : letterI x.toNat = false := by simpa using h5
        by_cases h6 : digitI x.toNat = true
        ·
          have F := And.intro g2 <| And.intro g3 <| And.intro g4 <| And.intro h5 <| h6
          repeat refine sg ?_
          refine oY (by simp only [go_sem, F]; exact iR) ?_
          repeat refine sg ?_
          refine cC (w_letter_con env x) ?_
          repeat refine sg ?_
          refine cC (w_digit_con env x) ?_
          repeat refine sg ?_
          refine oN (by simp only [go_sem, F]; exact iR) ?_
          repeat refine sg ?_
          refine ⟨i + 1, ⟨hlt, hnxt (by simp [innerI, h5, h6])⟩, ?_, ?_, ?_⟩
          · (simp only [go_sem, F])
          · (simp only [go_sem, F])
          · omega
        have h6 : digitI x.toNat = false := by simpa using h6
        by_cases h7 : (x.toNat : Int) = 46
        · have h8 : ((x.toNat : Int) != 46) = false := by rw [h7]; rfl
          have F := And.intro g2 <| And.intro g3 <| And.intro g4 <| And.intro h5 <| And.intro h6 <| h8
          repeat refine sg ?_
          refine oY (by simp only [go_sem, F]; exact iR) ?_
          repeat refine sg ?_
          refine cC (w_letter_con env x) ?_
          repeat refine sg ?_
          refine cC (w_digit_con env x) ?_
          repeat refine sg ?_
          refine oN (by simp only [go_sem, F]; exact iR) ?_
          repeat refine sg ?_
          refine ⟨i + 1, ⟨hlt, hnxt (by simp only [innerI, h5, h6, decide_eq_true h7, Bool.or_true])⟩, ?_, ?_, ?_⟩
          · (simp only [go_sem, F])
          · (simp only [go_sem, F])
          · omega
        · have h8 : ((x.toNat : Int) != 46) = true := bne_iff_ne.2 h7
          have F := And.intro g2 <| And.intro g3 <| And.intro g4 <| And.intro h5 <| And.intro h6 <| h8
          repeat refine sg ?_
          refine oY (by simp only [go_sem, F]; exact iR) ?_
          repeat refine sg ?_
          refine cC (w_letter_con env x) ?_
          repeat refine sg ?_
          refine cC (w_digit_con env x) ?_
          repeat refine sg ?_
          refine oY (by simp only [go_sem, F]; exact iR) ?_
          repeat refine sg ?_
          (refine awp_ret ?_; show (resRd _ _ _).run _ = some _; simp only [go_sem, F])
          rw [hnm, hnot (by simp only [innerI, h5, h6, decide_eq_false h7, Bool.or_false])]
      · have g2 : ¬ (i : Int) < (l.length : Int) := by omega
        have F := g2
        repeat refine sg ?_
        refine oN (by simp only [go_sem, F]; exact iR) ?_
        repeat refine sg ?_
        (refine awp_ret ?_; show (resRd _ _ _).run _ = some _; simp only [go_sem, F])
        rw [hnm, ← ha, List.take_of_length_le (by omega)]
    · have h2 : letterI c.toNat = false := by simpa using h2
      have hnm : nameB l = false := by
        cases l with
        | nil => exact (h0 rfl).elim
        | cons d r =>
          simp only [List.getElem?_cons_zero, Option.some.injEq] at hc
          subst hc
          unfold nameB
          simp only [h2, Bool.and_false, Bool.false_and]
      rw [hnm]
      have F := And.intro g0 <| And.intro g1 <| And.intro hc <| h2
      repeat refine sg ?_
      refine cC (w_letter_con env c) ?_
      repeat refine sg ?_
      refine oY (by simp only [go_sem, F]; exact iR) ?_
      repeat refine sg ?_
      exact aR
  · have g1 : 32 < (l.length : Int) := by omega
    have hnm : nameB l = false := by
      unfold nameB
      rw [decide_eq_false h1]
      rfl
    rw [hnm]
    have F := And.intro g0 <| And.intro g1 <| hc
    repeat refine sg ?_
    refine oY (by simp only [go_sem, F]; exact iR) ?_
    repeat refine sg ?_
    exact aR
end Go.Proofs.YthffdneigmbgfaaGreatDoor
set_option linter.unusedSimpArgs false
namespace Go.Proofs.YthffdneigmbgfaaGreatDoor
open Go.RowKit
set_option maxRecDepth 100000
set_option maxHeartbeats 1000000
theorem tokName_con (env : Env) (l : List UInt8) (hl : l.length ≤ 9223372036854775807) : Con Tryz.prog env 164 [Sg l] (B (nameB l)) :=
  con_lit Tryz.call164 fun w S vs hE hlen hv => by
    match vs, hlen with
    | [v], _ =>
      obtain rfl := (hv 0 v _ rfl rfl).lit_inv
      refine (name_any l hl w).mono ?_
      rintro e w' ⟨rfl, rfl⟩
      exact ⟨rfl, Below.refl _ _⟩
def fitsB (n : Int) : Bool := decide (-2147483647 ≤ n) && decide (n ≤ 2147483647)
theorem vFits_con (env : Env) (n : Int) : Con Tryz.prog env 186 [I n] (B (fitsB n)) := by
  unfold fitsB
  refine con_of_body Tryz.func186 rfl Tryz.call186 (by rw [Tryz.ntmps186]; simp) ?_
  rw [Tryz.ntmps186, Tryz.results186]
  by_cases h1 : -2147483647 ≤ n <;> by_cases h2 : n ≤ 2147483647 <;>
  · have F := And.intro h1 <| h2
    repeat refine st ?_
    exact aR
theorem rFits_con (env : Env) (n : Int) : Con Tryz.prog env 137 [I n] (B (fitsB n)) := by
  unfold fitsB
  refine con_of_body Tryz.func137 rfl Tryz.call137 (by rw [Tryz.ntmps137]; simp) ?_
  rw [Tryz.ntmps137, Tryz.results137]
  by_cases h1 : -2147483647 ≤ n <;> by_cases h2 : n ≤ 2147483647 <;>
  · have F := And.intro h1 <| h2
    repeat refine st ?_
    exact aR
/-! Expressions' kinds -/
theorem operands_cases {p : Int → Int → Prop} (h1 : ∀ k : Int, 1 ≤ k → k ≤ 4 → ¬ k < 1 → ¬ 19 < k → ¬ 4 < k → p k 0) (h5 : p 5 1) (h6 : p 6 1)
    (h7 : ∀ k : Int, 1 ≤ k → ¬ k ≤ 4 → (k == 5) = false → (k == 6) = false → 7 ≤ k → k ≤ 19 → ¬ k < 1 → ¬ 19 < k → ¬ k ≤ 6 → p k 2)
    (h8 : ∀ k : Int, ¬ 1 ≤ k → (k == 5) = false → (k == 6) = false → ¬ 7 ≤ k → k < 1 → p k (-1))
    (h9 : ∀ k : Int, 1 ≤ k → ¬ k ≤ 4 → (k == 5) = false → (k == 6) = false → 7 ≤ k → ¬ k ≤ 19 → ¬ k < 1 → 19 < k → p k (-1)) (k : Int) : p k (operandsI k) := by
  have ne : ∀ a b : Int, a ≠ b → (a == b) = false := fun a b h => by simpa using h
  by_cases a : 1 ≤ k
  · by_cases b : k ≤ 4
    · rw [show operandsI k = 0 by unfold operandsI; rw [if_pos ⟨a, b⟩]]
      exact h1 k a b (by omega) (by omega) (by omega)
    · by_cases c : k = 5
      · subst c; exact h5
      · by_cases d : k = 6
        · subst d; exact h6
        · by_cases e : k ≤ 19
          · rw [show operandsI k = 2 by unfold operandsI; rw [if_neg (by omega), if_neg (by omega), if_pos (by omega)]]
            exact h7 k a b (ne _ _ c) (ne _ _ d) (by omega) e (by omega) (by omega) (by omega)
          · rw [show operandsI k = -1 by unfold operandsI; rw [if_neg (by omega), if_neg (by omega), if_neg (by omega)]]
            exact h9 k a b (ne _ _ c) (ne _ _ d) (by omega) e (by omega) (by omega)
  · rw [show operandsI k = -1 by unfold operandsI; rw [if_neg (by omega), if_neg (by omega), if_neg (by omega)]]
    exact h8 k a (ne _ _ (by omega)) (ne _ _ (by omega)) (by omega) (by omega)
theorem pOperands_con (env : Env) (k : Int) : Con Tryz.prog env 210 [I k] (I (operandsI k)) := by
  refine operands_cases (p := fun k r => Con Tryz.prog env 210 [I k] (I r)) ?_ ?_ ?_ ?_ ?_ ?_ k
  · intro k a1 a2 a3 a4 a5
    refine con_of_body Tryz.func210 rfl Tryz.call210 (by rw [Tryz.ntmps210]; simp) ?_
    rw [Tryz.ntmps210, Tryz.results210]
    have F := And.intro a1 <| And.intro a2 <| And.intro a3 <| And.intro a4 <| a5
    repeat refine st ?_
    exact aR
  · refine con_of_body Tryz.func210 rfl Tryz.call210 (by rw [Tryz.ntmps210]; simp) ?_
    rw [Tryz.ntmps210, Tryz.results210]
    repeat refine st0 ?_
    exact aR0
  · refine con_of_body Tryz.func210 rfl Tryz.call210 (by rw [Tryz.ntmps210]; simp) ?_
    rw [Tryz.ntmps210, Tryz.results210]
    repeat refine st0 ?_
    exact aR0
  · intro k a1 a2 a3 a4 a5 a6 a7 a8 a9
    refine con_of_body Tryz.func210 rfl Tryz.call210 (by rw [Tryz.ntmps210]; simp) ?_
    rw [Tryz.ntmps210, Tryz.results210]
    have F := And.intro a1 <| And.intro a2 <| And.intro a3 <| And.intro a4 <| And.intro a5 <| And.intro a6 <| And.intro a7 <| And.intro a8 <| a9
    repeat refine st ?_
    exact aR
  · intro k a1 a2 a3 a4 a5
    refine con_of_body Tryz.func210 rfl Tryz.call210 (by rw [Tryz.ntmps210]; simp) ?_
    rw [Tryz.ntmps210, Tryz.results210]
    have F := And.intro a1 <| And.intro a2 <| And.intro a3 <| And.intro a4 <| a5
    repeat refine st ?_
    exact aR
  · intro k a1 a2 a3 a4 a5 a6 a7 a8
    refine con_of_body Tryz.func210 rfl Tryz.call210 (by rw [Tryz.ntmps210]; simp) ?_
    rw [Tryz.ntmps210, Tryz.results210]
    have F := And.intro a1 <| And.intro a2 <| And.intro a3 <| And.intro a4 <| And.intro a5 <| And.intro a6 <| And.intro a7 <| a8
    repeat refine st ?_
    exact aR
theorem rOperands_con (env : Env) (k : Int) : Con Tryz.prog env 200 [I k] (I (operandsI k)) := by
  refine operands_cases (p := fun k r => Con Tryz.prog env 200 [I k] (I r)) ?_ ?_ ?_ ?_ ?_ ?_ k
  · intro k a1 a2 a3 a4 a5
    refine con_of_body Tryz.func200 rfl Tryz.call200 (by rw [Tryz.ntmps200]; simp) ?_
    rw [Tryz.ntmps200, Tryz.results200]
    have F := And.intro a1 <| And.intro a2 <| And.intro a3 <| And.intro a4 <| a5
    repeat refine st ?_
    exact aR
  · refine con_of_body Tryz.func200 rfl Tryz.call200 (by rw [Tryz.ntmps200]; simp) ?_
    rw [Tryz.ntmps200, Tryz.results200]
    repeat refine st0 ?_
    exact aR0
  · refine con_of_body Tryz.func200 rfl Tryz.call200 (by rw [Tryz.ntmps200]; simp) ?_
    rw [Tryz.ntmps200, Tryz.results200]
    repeat refine st0 ?_
    exact aR0
  · intro k a1 a2 a3 a4 a5 a6 a7 a8 a9
    refine con_of_body Tryz.func200 rfl Tryz.call200 (by rw [Tryz.ntmps200]; simp) ?_
    rw [Tryz.ntmps200, Tryz.results200]
    have F := And.intro a1 <| And.intro a2 <| And.intro a3 <| And.intro a4 <| And.intro a5 <| And.intro a6 <| And.intro a7 <| And.intro a8 <| a9
    repeat refine st ?_
    exact aR
  · intro k a1 a2 a3 a4 a5
    refine con_of_body Tryz.func200 rfl Tryz.call200 (by rw [Tryz.ntmps200]; simp) ?_
    rw [Tryz.ntmps200, Tryz.results200]
    have F := And.intro a1 <| And.intro a2 <| And.intro a3 <| And.intro a4 <| a5
    repeat refine st ?_
    exact aR
  · intro k a1 a2 a3 a4 a5 a6 a7 a8
    refine con_of_body Tryz.func200 rfl Tryz.call200 (by rw [Tryz.ntmps200]; simp) ?_
    rw [Tryz.ntmps200, Tryz.results200]
    have F := And.intro a1 <| And.intro a2 <| And.intro a3 <| And.intro a4 <| And.intro a5 <| And.intro a6 <| And.intro a7 <| a8
    repeat refine st ?_
    exact aR
theorem numB_cases {p : OpD → Bool → Prop} (vs ss : Int)
    (h1 : ∀ n : Int, p ⟨1, n⟩ (decide (0 ≤ n) && decide (n ≤ 2147483647))) (h2 : ∀ n : Int, p ⟨2, n⟩ (decide (0 ≤ n) && decide (n < vs))) (h4 : ∀ n : Int, p ⟨4, n⟩ (decide (0 ≤ n) && decide (n < ss)))
    (h : ∀ k n : Int, (k == 1) = false → (k == 2) = false → (k == 4) = false → p ⟨k, n⟩ (decide (n = 0))) (o : OpD) : p o (numB o vs ss) := by
  have ne : ∀ a b : Int, a ≠ b → (a == b) = false := fun a b h => by simpa using h
  obtain ⟨k, n⟩ := o
  unfold numB
  simp only [Bool.decide_and]
  by_cases a : k = 1
  · subst a; simpa using h1 n
  by_cases b : k = 2
  · subst b; simpa using h2 n
  by_cases c : k = 4
  · subst c; simpa using h4 n
  rw [if_neg a, if_neg b, if_neg c]
  exact h k n (ne _ _ a) (ne _ _ b) (ne _ _ c)
theorem pNumber_con (env : Env) (o : OpD) (vs ss : Int) : Con Tryz.prog env 211 [.agg (opAV o), I vs, I ss] (B (numB o vs ss)) := by
  refine numB_cases (p := fun o r => Con Tryz.prog env 211 [.agg (opAV o), I vs, I ss] (B r)) vs ss (fun n => ?_) (fun n => ?_) (fun n => ?_) (fun k n a1 a2 a3 => ?_) o
  · refine con_of_body Tryz.func211 rfl Tryz.call211 (by rw [Tryz.ntmps211]; simp) ?_
    rw [Tryz.ntmps211, Tryz.results211]
    by_cases h1 : 0 ≤ n <;> by_cases h2 : n ≤ 2147483647 <;>
    · have h3 : (n < 2147483648) = (n ≤ 2147483647) := by rw [eq_iff_iff]; omega
      have F := And.intro opAV.eq_1 <| And.intro h1 <| And.intro h2 <| h3
      repeat refine st ?_
      exact aR
  · refine con_of_body Tryz.func211 rfl Tryz.call211 (by rw [Tryz.ntmps211]; simp) ?_
    rw [Tryz.ntmps211, Tryz.results211]
    by_cases h1 : 0 ≤ n <;> by_cases h2 : n < vs <;>
    · have F := And.intro opAV.eq_1 <| And.intro h1 <| h2
      repeat refine st ?_
      exact aR
  · refine con_of_body Tryz.func211 rfl Tryz.call211 (by rw [Tryz.ntmps211]; simp) ?_
    rw [Tryz.ntmps211, Tryz.results211]
    by_cases h1 : 0 ≤ n <;> by_cases h2 : n < ss <;>
    · have F := And.intro opAV.eq_1 <| And.intro h1 <| h2
      repeat refine st ?_
      exact aR
  · refine con_of_body Tryz.func211 rfl Tryz.call211 (by rw [Tryz.ntmps211]; simp) ?_
    rw [Tryz.ntmps211, Tryz.results211]
    by_cases h1 : 0 ≤ n <;> by_cases h2 : n < 1 <;>
    · have h3 : (n = 0) = (0 ≤ n ∧ n < 1) := by rw [eq_iff_iff]; omega
      have F := And.intro opAV.eq_1 <| And.intro h1 <| And.intro h2 <| And.intro h3 <| And.intro a1 <| And.intro a2 <| a3
      repeat refine st ?_
      exact aR
theorem rNumber_con (env : Env) (o : OpD) (vs ss : Int) : Con Tryz.prog env 201 [.agg (opAV o), I vs, I ss] (B (numB o vs ss)) := by
  refine numB_cases (p := fun o r => Con Tryz.prog env 201 [.agg (opAV o), I vs, I ss] (B r)) vs ss (fun n => ?_) (fun n => ?_) (fun n => ?_) (fun k n a1 a2 a3 => ?_) o
  · refine con_of_body Tryz.func201 rfl Tryz.call201 (by rw [Tryz.ntmps201]; simp) ?_
    rw [Tryz.ntmps201, Tryz.results201]
    by_cases h1 : 0 ≤ n <;> by_cases h2 : n ≤ 2147483647 <;>
    · have F := And.intro opAV.eq_1 <| And.intro h1 <| h2
      repeat refine st ?_
      exact aR
  · refine con_of_body Tryz.func201 rfl Tryz.call201 (by rw [Tryz.ntmps201]; simp) ?_
    rw [Tryz.ntmps201, Tryz.results201]
    by_cases h1 : 0 ≤ n <;> by_cases h2 : n < vs <;>
    · have F := And.intro opAV.eq_1 <| And.intro h1 <| h2
      repeat refine st ?_
      exact aR
  · refine con_of_body Tryz.func201 rfl Tryz.call201 (by rw [Tryz.ntmps201]; simp) ?_
    rw [Tryz.ntmps201, Tryz.results201]
    by_cases h1 : 0 ≤ n <;> by_cases h2 : n < ss <;>
    · have F := And.intro opAV.eq_1 <| And.intro h1 <| h2
      repeat refine st ?_
      exact aR
  · refine con_of_body Tryz.func201 rfl Tryz.call201 (by rw [Tryz.ntmps201]; simp) ?_
    rw [Tryz.ntmps201, Tryz.results201]
    have h3 : decide (n = 0) = (n == 0) := by rw [Bool.eq_iff_iff]; simp
    rw [h3]
    have F := And.intro opAV.eq_1 <| And.intro a1 <| And.intro a2 <| a3
    repeat refine st ?_
    exact aR
/-! States' kinds -/
theorem pHistory_con (env : Env) (s : StD) : Con Tryz.prog env 113 [.agg (stAV s)] (B (memyB s)) := by
  unfold memyB
  refine con_of_body Tryz.func113 rfl Tryz.call113 (by rw [Tryz.ntmps113]; simp) ?_
  rw [Tryz.ntmps113, Tryz.results113]
  cases h1 : (s.kind == 4) <;> cases h2 : (s.kind == 5) <;>
  · have F := And.intro stAV.eq_1 <| And.intro h1 <| h2
    repeat refine st ?_
    exact aR
theorem rMemory_con (env : Env) (s : StD) : Con Tryz.prog env 77 [.agg (stAV s)] (B (memyB s)) := by
  unfold memyB
  refine con_of_body Tryz.func77 rfl Tryz.call77 (by rw [Tryz.ntmps77]; simp) ?_
  rw [Tryz.ntmps77, Tryz.results77]
  cases h1 : (s.kind == 4) <;> cases h2 : (s.kind == 5) <;>
  · have F := And.intro stAV.eq_1 <| And.intro h1 <| h2
    repeat refine st ?_
    exact aR
theorem pNormal_con (env : Env) (s : StD) : Con Tryz.prog env 169 [.agg (stAV s)] (B (normB s)) := by
  unfold normB
  refine con_of_body Tryz.func169 rfl Tryz.call169 (by rw [Tryz.ntmps169]; simp) ?_
  rw [Tryz.ntmps169, Tryz.results169]
  cases h1 : (s.kind == 1) <;> cases h2 : (s.kind == 2) <;>
  · have F := And.intro stAV.eq_1 <| And.intro h1 <| h2
    repeat refine st ?_
    exact aR
theorem rNormal_con (env : Env) (s : StD) : Con Tryz.prog env 107 [.agg (stAV s)] (B (normB s)) := by
  unfold normB
  refine con_of_body Tryz.func107 rfl Tryz.call107 (by rw [Tryz.ntmps107]; simp) ?_
  rw [Tryz.ntmps107, Tryz.results107]
  cases h1 : (s.kind == 1) <;> cases h2 : (s.kind == 2) <;>
  · have F := And.intro stAV.eq_1 <| And.intro h1 <| h2
    repeat refine st ?_
    exact aR
end Go.Proofs.YthffdneigmbgfaaGreatDoor
set_option linter.unusedSimpArgs false
namespace Go.Proofs.YthffdneigmbgfaaGreatDoor
open Go.RowKit
set_option maxRecDepth 100000
set_option maxHeartbeats 8000000
end Go.Proofs.YthffdneigmbgfaaGreatDoor
set_option linter.unusedSimpArgs false
namespace Go.Proofs.YthffdneigmbgfaaGreatDoor
open Go.RowKit
set_option maxRecDepth 100000
set_option maxHeartbeats 8000000
end Go.Proofs.YthffdneigmbgfaaGreatDoor
