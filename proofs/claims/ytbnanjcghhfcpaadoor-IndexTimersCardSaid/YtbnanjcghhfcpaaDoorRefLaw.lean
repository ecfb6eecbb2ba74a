/- The document's bits and set as plain data. No program is named here. -/
import Derived.Test.YtbnanjcghhfcpaaDoorRecBack
namespace Go.Proofs.YtbnanjcghhfcpaaDoor
open Go.RowKit

theorem setN_cons (x : Int) (l : List Int) : setN (x :: l) = 2 ^ x.toNat + setN l := by simp [setN]
theorem setN_filter_le (p : Int → Bool) : ∀ l : List Int, setN (l.filter p) ≤ setN l
  | [] => by simp
  | x :: l => by
    have ih := setN_filter_le p l
    rw [List.filter_cons]
    split
    · rw [setN_cons, setN_cons]; omega
    · rw [setN_cons]; exact Nat.le_trans ih (Nat.le_add_left _ _)
theorem setN_append (a b : List Int) : setN (a ++ b) = setN a + setN b := by simp [setN]
/-- The states below i. -/
def loS (l : List Int) (i : Nat) : Nat := setN (l.filter fun x => decide (x < (i : Int)))
/-- Those among the first k that are i. -/
def eqS (l : List Int) (i k : Nat) : Nat := setN ((l.take k).filter fun x => decide (x = (i : Int)))
theorem loS_zero : ∀ (l : List Int), (∀ x ∈ l, 0 ≤ x) → loS l 0 = 0
  | [], _ => rfl
  | x :: l, h => by
    have ih := loS_zero l (fun y hy => h y (by simp [hy]))
    have := h x (by simp)
    unfold loS at ih ⊢
    rw [List.filter_cons, if_neg (by simp; omega)]
    exact ih
theorem loS_succ (i : Nat) : ∀ (l : List Int), loS l (i + 1) = loS l i + eqS l i l.length
  | [] => rfl
  | x :: l => by
    have ih := loS_succ i l
    unfold loS eqS at ih ⊢
    rw [List.take_length] at ih ⊢
    simp only [List.filter_cons]
    by_cases h1 : x < (i : Int)
    · rw [if_pos (by simp; omega), if_pos (by simpa using h1), if_neg (by simp; omega), setN_cons, setN_cons]; omega
    · by_cases h2 : x = (i : Int)
      · rw [if_pos (by simp; omega), if_neg (by simpa using h1), if_pos (by simpa using h2), setN_cons, setN_cons]; omega
      · rw [if_neg (by simp; omega), if_neg (by simpa using h1), if_neg (by simpa using h2)]; exact ih
theorem eqS_take_le (l : List Int) (i k : Nat) : eqS l i k ≤ eqS l i l.length := by
  unfold eqS
  rw [List.take_length]
  have : l.filter (fun x => decide (x = (i : Int))) = (l.take k).filter (fun x => decide (x = (i : Int))) ++ (l.drop k).filter (fun x => decide (x = (i : Int))) := by
    rw [← List.filter_append, List.take_append_drop]
  rw [this, setN_append]
  omega
theorem bits_le (l : List Int) (i k : Nat) : loS l i + eqS l i k ≤ setN l := by
  have h1 := eqS_take_le l i k
  have h2 := loS_succ i l
  have h3 : loS l (i + 1) ≤ setN l := setN_filter_le _ l
  omega
theorem eqS_yes (l : List Int) (i k : Nat) (h : k < l.length) (he : l.getD k 0 = (i : Int)) : eqS l i (k + 1) = eqS l i k + 2 ^ i := by
  rw [getD_get l k 0 h] at he
  unfold eqS
  rw [List.take_succ_eq_append_getElem h, List.filter_append, setN_append]
  simp [he, setN]
theorem eqS_no (l : List Int) (i k : Nat) (h : k < l.length) (he : ¬ l.getD k 0 = (i : Int)) : eqS l i (k + 1) = eqS l i k := by
  rw [getD_get l k 0 h] at he
  unfold eqS
  rw [List.take_succ_eq_append_getElem h, List.filter_append, setN_append]
  simp [he, setN]
theorem eqS_zero (l : List Int) (i : Nat) : eqS l i 0 = 0 := rfl
theorem loS_all (l : List Int) (h : ∀ x ∈ l, x < 32) : loS l 32 = setN l := by
  unfold loS
  rw [List.filter_eq_self.2 (fun x hx => by simpa using h x hx)]
theorem states_mem {l : List Int} (h : allB l.length (stAt l) = true) : ∀ x ∈ l, 0 ≤ x ∧ x ≤ 31 := by
  intro x hx
  obtain ⟨j, hj, rfl⟩ := List.getElem_of_mem hx
  have := stAt_ge (allB_at h j hj)
  rw [getD_get l j 0 hj] at this
  exact ⟨this.1, this.2.1⟩

/-- The first i of a number's states. -/
def setUp (n i : Nat) : List Int := ((List.range i).filter fun (j : Nat) => n / 2 ^ j % 2 == 1).map fun (j : Nat) => (j : Int)
theorem setUp_all (n : Nat) : setUp n 32 = setOf n := rfl
theorem setUp_yes (n i : Nat) (h : n / 2 ^ i % 2 = 1) : setUp n (i + 1) = setUp n i ++ [(i : Int)] := by
  unfold setUp
  rw [List.range_succ, List.filter_append, List.map_append]
  simp [h]
theorem setUp_no (n i : Nat) (h : ¬ n / 2 ^ i % 2 = 1) : setUp n (i + 1) = setUp n i := by
  unfold setUp
  rw [List.range_succ, List.filter_append, List.map_append]
  simp [h]
theorem setUp_len (n i : Nat) : (setUp n i).length ≤ i := by
  unfold setUp
  rw [List.length_map]
  exact Nat.le_trans (List.length_filter_le _ _) (by simp)
end Go.Proofs.YtbnanjcghhfcpaaDoor
