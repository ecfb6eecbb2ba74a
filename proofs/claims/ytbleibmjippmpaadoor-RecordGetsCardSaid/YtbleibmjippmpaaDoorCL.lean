/- Records read of bytes: how long their parts are. No program is named here. -/
import Derived.Test.YtbleibmjippmpaaDoorRefLaw
namespace Go.Proofs.YtbleibmjippmpaaDoor
open Go.RowKit

theorem w_setOf_len (n : Nat) : (setOf n).length ≤ 32 := by rw [← setUp_all]; exact setUp_len n 32
theorem pnum_is {b : List UInt8} {a w : Nat} {x : Nat × Nat} (h : pnum b a w = some x) : x.2 = a + w ∧ x.2 ≤ b.length := by
  unfold pnum at h
  split at h
  · rename_i hh
    cases h
    exact ⟨rfl, hh.1⟩
  · cases h
theorem ptext_is {b : List UInt8} {a : Nat} {x : List UInt8 × Nat} (h : ptext b a = some x) : a + 2 ≤ x.2 ∧ x.2 ≤ b.length ∧ x.1.length ≤ b.length := by
  unfold ptext at h
  split at h
  · rename_i hh
    cases h
    refine ⟨by simp, hh.2, ?_⟩
    simp only [cut, List.length_take, List.length_drop]
    omega
  · cases h
section
variable {α : Type} {b : List UInt8} {r : α}
theorem pvars_in {K : List Int → Nat → Option α} : ∀ (n a : Nat) (acc : List Int), pvars b K n a acc = some r → acc.length ≤ a → a ≤ b.length → ∃ vs a', K vs a' = some r ∧ vs.length ≤ a' ∧ a' ≤ b.length
  | 0, a, acc, h, h1, h2 => ⟨acc, a, h, h1, h2⟩
  | n + 1, a, acc, h, h1, h2 => by
    rw [pvars] at h
    cases hp : pnum b a 4 with
    | none => rw [hp] at h; cases h
    | some x =>
      rw [hp] at h
      obtain ⟨q1, q2⟩ := pnum_is hp
      exact pvars_in n x.2 _ h (by simp only [List.length_append, List.length_cons, List.length_nil]; omega) q2
theorem pmems_in {K : List (Int × List Int) → Nat → Option α} : ∀ (n a : Nat) (acc : List (Int × List Int)), pmems b K n a acc = some r → acc.length ≤ a → a ≤ b.length → (∀ m ∈ acc, m.2.length ≤ 32) → ∃ ms a', K ms a' = some r ∧ ms.length ≤ a' ∧ a' ≤ b.length ∧ ∀ m ∈ ms, m.2.length ≤ 32
  | 0, a, acc, h, h1, h2, h3 => ⟨acc, a, h, h1, h2, h3⟩
  | n + 1, a, acc, h, h1, h2, h3 => by
    rw [pmems] at h
    cases hp : pnum b a 1 with
    | none => rw [hp] at h; cases h
    | some x =>
      rw [hp] at h
      obtain ⟨q1, q2⟩ := pnum_is hp
      have h : (pnum b x.2 4).bind _ = some r := h
      cases hp2 : pnum b x.2 4 with
      | none => rw [hp2] at h; cases h
      | some y =>
        rw [hp2] at h
        obtain ⟨q3, q4⟩ := pnum_is hp2
        refine pmems_in n y.2 _ h (by simp only [List.length_append, List.length_cons, List.length_nil]; omega) q4 fun m hm => ?_
        rcases List.mem_append.1 hm with hm | hm
        · exact h3 m hm
        · simp only [List.mem_singleton] at hm
          subst hm
          exact w_setOf_len _
theorem ptms_in {K : List (List UInt8 × Int) → Nat → Option α} : ∀ (n a : Nat) (acc : List (List UInt8 × Int)), ptms b K n a acc = some r → acc.length ≤ a → a ≤ b.length → (∀ t ∈ acc, t.1.length ≤ b.length) → ∃ ts a', K ts a' = some r ∧ ts.length ≤ a' ∧ a' ≤ b.length ∧ ∀ t ∈ ts, t.1.length ≤ b.length
  | 0, a, acc, h, h1, h2, h3 => ⟨acc, a, h, h1, h2, h3⟩
  | n + 1, a, acc, h, h1, h2, h3 => by
    rw [ptms] at h
    cases hp : ptext b a with
    | none => rw [hp] at h; cases h
    | some x =>
      rw [hp] at h
      obtain ⟨q1, q2, q5⟩ := ptext_is hp
      have h : (pnum b x.2 8).bind _ = some r := h
      cases hp2 : pnum b x.2 8 with
      | none => rw [hp2] at h; cases h
      | some y =>
        rw [hp2] at h
        obtain ⟨q3, q4⟩ := pnum_is hp2
        refine ptms_in n y.2 _ h (by simp only [List.length_append, List.length_cons, List.length_nil]; omega) q4 fun t ht => ?_
        rcases List.mem_append.1 ht with ht | ht
        · exact h3 t ht
        · simp only [List.mem_singleton] at ht
          subst ht
          exact q5
end
section
variable {α β : Type} {b : List UInt8} (f : α → β)
theorem ptms_map {K : List (List UInt8 × Int) → Nat → Option α} : ∀ (n a : Nat) (acc : List (List UInt8 × Int)), ptms b (fun ts a => (K ts a).map f) n a acc = (ptms b K n a acc).map f
  | 0, a, acc => rfl
  | n + 1, a, acc => by simp only [ptms, Option.map_bind, Function.comp_def, ptms_map n]
theorem pmems_map {K : List (Int × List Int) → Nat → Option α} : ∀ (n a : Nat) (acc : List (Int × List Int)), pmems b (fun ts a => (K ts a).map f) n a acc = (pmems b K n a acc).map f
  | 0, a, acc => rfl
  | n + 1, a, acc => by simp only [pmems, Option.map_bind, Function.comp_def, pmems_map n]
theorem pvars_map {K : List Int → Nat → Option α} : ∀ (n a : Nat) (acc : List Int), pvars b (fun ts a => (K ts a).map f) n a acc = (pvars b K n a acc).map f
  | 0, a, acc => rfl
  | n + 1, a, acc => by simp only [pvars, Option.map_bind, Function.comp_def, pvars_map n]
end
end Go.Proofs.YtbleibmjippmpaaDoor
