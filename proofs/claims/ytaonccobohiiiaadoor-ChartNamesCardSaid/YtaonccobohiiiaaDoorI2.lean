/- Pairs put in the order of their keys, one by one and by a sort: plain. No program is named here. -/
import Derived.Test.YtaonccobohiiiaaDoorKit
namespace Go.Proofs.YtaonccobohiiiaaDoor
open Go.RowKit

theorem bl_irrefl : ∀ a : List UInt8, Op.bytesLess a a = false
  | [] => rfl
  | x :: a => by simp [Op.bytesLess, bl_irrefl a]
theorem bl_trans : ∀ {a b c : List UInt8}, Op.bytesLess a b = true → Op.bytesLess b c = true → Op.bytesLess a c = true
  | _, [], _, h, _ => by simp [Op.bytesLess] at h
  | _, _ :: _, [], _, h => by simp [Op.bytesLess] at h
  | [], _ :: _, _ :: _, _, _ => rfl
  | x :: a, y :: b, z :: c, h, k => by
    simp only [Op.bytesLess, Bool.or_eq_true, decide_eq_true_eq, Bool.and_eq_true, beq_iff_eq] at h k ⊢
    rcases h with h | ⟨h, h'⟩
    · rcases k with k | ⟨k, k'⟩
      · exact .inl (UInt8.lt_trans h k)
      · exact .inl (k ▸ h)
    · rcases k with k | ⟨k, k'⟩
      · exact .inl (h ▸ k)
      · exact .inr ⟨h.trans k, bl_trans h' k'⟩
theorem bl_total : ∀ {a b : List UInt8}, Op.bytesLess a b = false → Op.bytesLess b a = false → a = b
  | [], [], _, _ => rfl
  | [], _ :: _, h, _ => by simp [Op.bytesLess] at h
  | _ :: _, [], _, h => by simp [Op.bytesLess] at h
  | x :: a, y :: b, h, k => by
    simp only [Op.bytesLess, Bool.or_eq_false_iff, decide_eq_false_iff_not, Bool.and_eq_false_iff] at h k
    have e : x = y := UInt8.le_antisymm (UInt8.not_lt.1 k.1) (UInt8.not_lt.1 h.1)
    subst e
    simp only [beq_self_eq_true, Bool.true_eq_false, false_or] at h k
    rw [bl_total h.2 k.2]
theorem bl_asymm {a b : List UInt8} (h : Op.bytesLess a b = true) : Op.bytesLess b a = false := by
  cases k : Op.bytesLess b a
  · rfl
  · have := bl_trans h k
    rw [bl_irrefl] at this
    cases this

abbrev Pr := List UInt8 × List UInt8
/-- A pair ahead of the first that is above it. -/
def insP (x : Pr) : List Pr → List Pr
  | [] => [x]
  | y :: l => if Op.bytesLess x.1 y.1 then x :: y :: l else y :: insP x l
theorem insP_perm (x : Pr) : ∀ l, (insP x l).Perm (x :: l)
  | [] => .refl _
  | y :: l => by
    unfold insP
    split
    · exact .refl _
    · exact ((insP_perm x l).cons y).trans (.swap x y l)
def lessP (x y : Pr) : Prop := Op.bytesLess x.1 y.1 = true
theorem insP_sorted {x : Pr} : ∀ {l : List Pr}, l.Pairwise lessP → (∀ y ∈ l, y.1 ≠ x.1) → (insP x l).Pairwise lessP
  | [], _, _ => by simp [insP]
  | y :: l, h, hx => by
    obtain ⟨h1, h2⟩ := List.pairwise_cons.1 h
    unfold insP
    split
    · rename_i hl
      refine List.pairwise_cons.2 ⟨fun z hz => ?_, h⟩
      rcases List.mem_cons.1 hz with rfl | hz
      · exact hl
      · exact bl_trans hl (h1 z hz)
    · rename_i hl
      have hl' : Op.bytesLess x.1 y.1 = false := by simpa using hl
      refine List.pairwise_cons.2 ⟨fun z hz => ?_, insP_sorted h2 fun z hz => hx z (by simp [hz])⟩
      rcases List.mem_cons.1 ((insP_perm x l).mem_iff.1 hz) with rfl | hz
      · cases k : Op.bytesLess y.1 z.1
        · exact absurd (bl_total k hl') (hx y (by simp))
        · exact k
      · exact h1 z hz
def refP (ps : List Pr) : List Pr := ps.foldl (fun acc x => insP x acc) []
theorem refP_snoc (ps : List Pr) (x : Pr) : refP (ps ++ [x]) = insP x (refP ps) := by simp [refP]
theorem refP_ok : ∀ (ps : List Pr) (acc : List Pr), acc.Pairwise lessP → (acc ++ ps).Pairwise (fun x y => x.1 ≠ y.1) → (ps.foldl (fun acc x => insP x acc) acc).Pairwise lessP ∧ (ps.foldl (fun acc x => insP x acc) acc).Perm (acc ++ ps)
  | [], acc, h, _ => by simpa using h
  | x :: ps, acc, h, hd => by
    have hx : ∀ y ∈ acc, y.1 ≠ x.1 := fun y hy => (List.pairwise_append.1 hd).2.2 y hy x (by simp)
    have hp : (insP x acc ++ ps).Perm (acc ++ x :: ps) := ((insP_perm x acc).append_right ps).trans (by simpa using List.perm_middle.symm)
    obtain ⟨k1, k2⟩ := refP_ok ps (insP x acc) (insP_sorted h hx) ((hp.pairwise_iff (fun {a b} (h : a.1 ≠ b.1) => h.symm)).2 hd)
    exact ⟨k1, k2.trans hp⟩
/-- Of keys that differ both ways end alike. -/
theorem refP_sort {ps : List Pr} (hd : ps.Pairwise (fun x y => x.1 ≠ y.1)) : refP ps = ps.mergeSort fun x y => !Op.bytesLess y.1 x.1 := by
  obtain ⟨h1, h2⟩ : (refP ps).Pairwise lessP ∧ (refP ps).Perm ps := by simpa [refP] using refP_ok ps [] .nil (by simpa using hd)
  have h3 : (ps.mergeSort fun x y => !Op.bytesLess y.1 x.1).Pairwise fun x y => (!Op.bytesLess y.1 x.1) = true := List.pairwise_mergeSort (fun a b c hab hbc => by
      simp only [Bool.not_eq_true'] at *
      cases k : Op.bytesLess c.1 a.1
      · rfl
      · cases k2 : Op.bytesLess b.1 a.1
        · cases k3 : Op.bytesLess a.1 b.1
          · rw [← bl_total k3 k2, k] at hbc; cases hbc
          · rw [bl_trans k k3] at hbc; cases hbc
        · rw [k2] at hab; cases hab) (fun a b => by
      cases k : Op.bytesLess b.1 a.1
      · simp
      · rw [bl_asymm k]; simp) ps
  refine List.Perm.eq_of_pairwise (le := fun x y => (!Op.bytesLess y.1 x.1) = true) ?_ (h1.imp fun {a b} h => by simp [bl_asymm h]) h3 (h2.trans (List.mergeSort_perm _ _).symm)
  intro a b ha hb hab hba
  have ha' : a ∈ ps := h2.mem_iff.1 ha
  have hb' : b ∈ ps := List.mem_mergeSort.1 hb
  have e := bl_total (a := a.1) (b := b.1) (by simpa using hba) (by simpa using hab)
  by_cases hne : a = b
  · exact hne
  · obtain ⟨i, hi, rfl⟩ := List.getElem_of_mem ha'
    obtain ⟨j, hj, rfl⟩ := List.getElem_of_mem hb'
    have hp := List.pairwise_iff_getElem.1 hd
    rcases Nat.lt_trichotomy i j with hij | hij | hij
    · exact absurd e (hp i j hi hj hij)
    · subst hij; exact absurd rfl hne
    · exact absurd e.symm (hp j i hj hi hij)
end Go.Proofs.YtaonccobohiiiaaDoor
