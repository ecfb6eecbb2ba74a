/- Lists that are the same: plain. No program is named here. -/
import Derived.Test.YtaonccobohiiiaaDoorHD
namespace Go.Proofs.YtaonccobohiiiaaDoor

theorem take_same {α : Type} {a b : List α} {i : Nat} {x y : α} (h : a.take i = b.take i) (hx : a[i]? = some x) (hy : b[i]? = some y) (e : x = y) : a.take (i + 1) = b.take (i + 1) := by
  obtain ⟨h1, h2⟩ := List.getElem?_eq_some_iff.1 hx
  obtain ⟨h3, h4⟩ := List.getElem?_eq_some_iff.1 hy
  rw [List.take_succ_eq_append_getElem h1, List.take_succ_eq_append_getElem h3, h, h2, h4, e]
theorem unlike_at {α : Type} [DecidableEq α] {a b : List α} {i : Nat} {x y : α} (hx : a[i]? = some x) (hy : b[i]? = some y) (e : x ≠ y) : (a == b) = false := by
  rw [beq_eq_false_iff_ne]
  intro h
  rw [h, hy] at hx
  exact e (Option.some.inj hx).symm
theorem same_all {α : Type} [DecidableEq α] {a b : List α} {i : Nat} (h : a.take i = b.take i) (ha : a.length ≤ i) (hb : b.length ≤ i) : (a == b) = true := by
  rw [List.take_of_length_le ha, List.take_of_length_le hb] at h
  simpa using h
theorem unlike_len {α : Type} [DecidableEq α] {a b : List α} (h : a.length ≠ b.length) : (a == b) = false := by
  rw [beq_eq_false_iff_ne]
  intro e
  exact h (by rw [e])
theorem some_at {α : Type} {l : List α} {i : Nat} (h : i < l.length) : ∃ x, l[i]? = some x ∧ x ∈ l := ⟨l[i], List.getElem?_eq_getElem h, List.getElem_mem h⟩
theorem ibeq (a b : Nat) : ((a : Int) == (b : Int)) = (a == b) := by rw [Bool.eq_iff_iff]; simp; omega
theorem ibne {a b : Nat} (h : a ≠ b) : ((a : Int) == (b : Int)) = false := by simp; omega
theorem act_eq (a b : ActD) : (a == b) = ((a.kind == b.kind) && (a.n == b.n) && (a.name == b.name) && (a.code == b.code)) := by
  rw [Bool.eq_iff_iff]
  obtain ⟨k, n, m, c⟩ := a
  obtain ⟨k', n', m', c'⟩ := b
  simp [and_assoc]
theorem op_eq (a b : OpD) : (a == b) = ((a.kind == b.kind) && (a.n == b.n)) := by
  rw [Bool.eq_iff_iff]
  obtain ⟨k, n⟩ := a
  obtain ⟨k', n'⟩ := b
  simp
theorem var_eq (a b : VarD) : (a == b) = ((a.name == b.name) && (a.start == b.start)) := by
  rw [Bool.eq_iff_iff]
  obtain ⟨k, n⟩ := a
  obtain ⟨k', n'⟩ := b
  simp
theorem st_eq (a b : StD) : (a == b) = ((a.name == b.name) && (a.kind == b.kind) && (a.parent == b.parent) && (a.initial == b.initial) && (a.inn == b.inn) && (a.out == b.out)) := by
  rw [Bool.eq_iff_iff]
  obtain ⟨a1, a2, a3, a4, a5, a6⟩ := a
  obtain ⟨b1, b2, b3, b4, b5, b6⟩ := b
  simp [and_assoc]
theorem tr_eq (a b : TrD) : (a == b) = ((a.src == b.src) && (a.event == b.event) && (a.target == b.target) && (a.guard == b.guard) && (a.acts == b.acts)) := by
  rw [Bool.eq_iff_iff]
  obtain ⟨a1, a2, a3, a4, a5⟩ := a
  obtain ⟨b1, b2, b3, b4, b5⟩ := b
  simp
  constructor
  · rintro ⟨h1, h2, h3, h4, h5⟩; exact ⟨⟨⟨⟨h1, h2⟩, h5⟩, h3⟩, h4⟩
  · rintro ⟨⟨⟨⟨h1, h2⟩, h5⟩, h3⟩, h4⟩; exact ⟨h1, h2, h3, h4, h5⟩
theorem ch_eq (a b : ChD) : (a == b) = ((a.name == b.name) && (a.initial == b.initial) && (a.vars == b.vars) && (a.states == b.states) && (a.trans == b.trans)) := by
  rw [Bool.eq_iff_iff]
  obtain ⟨a1, a2, a3, a4, a5⟩ := a
  obtain ⟨b1, b2, b3, b4, b5⟩ := b
  simp [and_assoc]
end Go.Proofs.YtaonccobohiiiaaDoor
