/- The plain law of charts' trees: in a right chart parents are ahead; what is counted. No program is named here. -/
import Derived.Test.YtaggnpieofpphaaDoorHP
import Derived.Test.YtaggnpieofpphaaDoorHS
import Derived.Test.YtaggnpieofpphaaDoorCO
namespace Go.Proofs.YtaggnpieofpphaaDoor
open Go.RowKit

/-- What a right chart keeps. -/
structure Right (c : ChD) : Prop where
  few : c.states.length ≤ 32
  par : ∀ (k : Nat) (s : StD), c.states[k]? = some s → -1 ≤ s.parent ∧ s.parent < k
  top : ∃ (m : Nat) (q : StD), c.initial = m ∧ c.states[m]? = some q ∧ q.parent = -1
theorem firstBad_all {p : Nat → Bool} {n : Nat} (h : firstBad p n = none) (j : Nat) (hj : j < n) : p j = true := by
  unfold firstBad at h
  rw [List.find?_eq_none] at h
  simpa using h j (by simpa using hj)
theorem right_of {c : ChD} (h : (chk c).1 = 0) : Right c := by
  unfold chk at h
  split at h
  · simp at h
  rename_i h1
  split at h
  · simp at h
  split at h
  · simp at h
  split at h
  · simp at h
  rename_i h3
  split at h
  · simp at h
  rename_i h4
  refine ⟨by omega, fun k s hs => ?_, ?_⟩
  · have hk : k < c.states.length := (List.getElem?_eq_some_iff.1 hs).1
    have := firstBad_all h3 k hk
    unfold cStAt at this
    rw [hs] at this
    have hp : parentB c k s = true := by
      simp only [stateB, Bool.and_eq_true] at this
      exact this.1.1.1.2
    simp only [parentB, Bool.or_eq_true, Bool.and_eq_true, decide_eq_true_eq, beq_iff_eq] at hp
    omega
  · have ht : topB c = true := by simpa using h4
    unfold topB at ht
    split at ht
    · rename_i q hq
      simp only [Bool.and_eq_true, beq_iff_eq] at ht
      unfold at_ at hq
      split at hq
      · rename_i h0
        exact ⟨c.initial.toNat, q, by omega, hq, ht.1⟩
      · cases hq
    · cases ht
/-- Is a place's state real, and its parent's place below n - 1? -/
def low (c : ChD) (n : Nat) (k : Nat) : Bool := match c.states[k]? with
  | some s => decide (s.parent + 1 < n) && !memyB s
  | none => false
def mark (c : ChD) (n : Nat) (l : List Nat) (k : Nat) : Int := if low c n k = true ∨ k ∈ l then 1 else 0
def seenE (c : ChD) (n : Nat) (l : List Nat) : List (List AV) := (List.range c.states.length).map fun k => [I (mark c n l k)]
theorem seen_len (c : ChD) (n : Nat) (l : List Nat) : (seenE c n l).length = c.states.length := by simp [seenE]
theorem seen_at {c : ChD} {n : Nat} {l : List Nat} {k : Nat} (h : k < c.states.length) : (seenE c n l)[k]? = some [I (mark c n l k)] := by
  simp [seenE, List.getElem?_map, List.getElem?_range h]
theorem low_at {c : ChD} {k : Nat} {s : StD} (hs : c.states[k]? = some s) (n : Nat) : low c n k = (decide (s.parent + 1 < n) && !memyB s) := by unfold low; rw [hs]
theorem seen_zero {c : ChD} (h : Right c) : List.replicate c.states.length [I 0] = seenE c 0 [] := by
  apply List.ext_getElem?
  intro k
  by_cases hk : k < c.states.length
  · obtain ⟨s, hs, _⟩ := some_at hk
    have := h.par k s hs
    rw [seen_at hk, List.getElem?_replicate, if_pos hk]
    have : mark c 0 [] k = 0 := by
      unfold mark
      rw [low_at hs]
      simp
      omega
    rw [this]
  · rw [List.getElem?_eq_none (by simp; omega), List.getElem?_eq_none (by rw [seen_len]; omega)]
theorem seen_set {c : ChD} {n : Nat} {l : List Nat} {k : Nat} : (seenE c n l).set k [I 1] = seenE c n (l ++ [k]) := by
  apply List.ext_getElem?
  intro j
  by_cases hj : j < c.states.length
  · rw [seen_at hj, List.getElem?_set]
    by_cases e : k = j
    · subst e
      rw [if_pos rfl, if_pos (by rw [seen_len]; exact hj)]
      simp [mark]
    · rw [if_neg e, seen_at hj]
      have : mark c n (l ++ [k]) j = mark c n l j := by
        unfold mark
        have : ¬ j = k := fun h => e h.symm
        simp [List.mem_append, this]
      rw [this]
  · rw [List.getElem?_eq_none (by simp [seen_len]; omega), List.getElem?_eq_none (by rw [seen_len]; omega)]
theorem kid_is {c : ChD} {i : Int} {k : Nat} (h : k ∈ kidsL c i true) : ∃ s, c.states[k]? = some s ∧ s.parent = i ∧ memyB s = false ∧ k < c.states.length := by
  obtain ⟨h1, h2⟩ := kidsTo_lt h
  obtain ⟨s, hs, _⟩ := some_at h1
  unfold isKid at h2
  rw [hs] at h2
  simp at h2
  exact ⟨s, hs, h2.1, h2.2, h1⟩
theorem kid_of {c : ChD} {i : Int} {k : Nat} {s : StD} (hs : c.states[k]? = some s) (hp : s.parent = i) (hm : memyB s = false) : k ∈ kidsL c i true := by
  have hk : k < c.states.length := (List.getElem?_eq_some_iff.1 hs).1
  unfold kidsL kidsTo
  rw [List.mem_filter]
  refine ⟨by simpa using hk, ?_⟩
  unfold isKid
  rw [hs]
  simp [hp, hm]
theorem kids_nodup (c : ChD) (i : Int) : (kidsL c i true).Nodup := List.Nodup.sublist List.filter_sublist List.nodup_range
/-- Of a kid that was not yet counted. -/
theorem mark_new {c : ChD} {n : Nat} {j k : Nat} (hj : (kidsL c ((n : Int) - 1) true)[j]? = some k) : mark c n ((kidsL c ((n : Int) - 1) true).take j) k = 0 := by
  obtain ⟨s, hs, hp, hm, _⟩ := kid_is (List.mem_of_getElem? hj)
  unfold mark
  rw [if_neg]
  rintro (h | h)
  · rw [low_at hs] at h
    simp at h
    omega
  · obtain ⟨i, hi, e⟩ := List.getElem_of_mem h
    have hi' : i < j ∧ i < (kidsL c ((n : Int) - 1) true).length := by
      simp only [List.length_take] at hi
      omega
    have hjl := (List.getElem?_eq_some_iff.1 hj)
    rw [List.getElem_take] at e
    have := (List.getElem_inj (kids_nodup c ((n : Int) - 1)) (i := i) (j := j) (h₀ := hi'.2) (h₁ := hjl.1)).1 (e.trans hjl.2.symm)
    omega
theorem seen_end {c : ChD} (n : Nat) : seenE c n (kidsL c ((n : Int) - 1) true) = seenE c (n + 1) [] := by
  unfold seenE
  apply List.map_congr_left
  intro k hk
  have hk : k < c.states.length := by simpa using hk
  obtain ⟨s, hs, _⟩ := some_at hk
  have : mark c n (kidsL c ((n : Int) - 1) true) k = mark c (n + 1) [] k := by
    unfold mark
    congr 1
    rw [low_at hs, low_at hs, eq_iff_iff]
    constructor
    · rintro (h | h)
      · left
        simp at h ⊢
        exact ⟨by omega, h.2⟩
      · obtain ⟨s', hs', hp, hm, _⟩ := kid_is h
        rw [hs] at hs'
        cases hs'
        left
        simp [hm]
        omega
    · rintro (h | h)
      · simp at h
        by_cases e : s.parent = (n : Int) - 1
        · exact .inr (kid_of hs e h.2)
        · left
          simp
          exact ⟨by omega, h.2⟩
      · cases h
  rw [this]
theorem mark_end {c : ChD} (h : Right c) {k : Nat} {s : StD} (hs : c.states[k]? = some s) : mark c (c.states.length + 1) [] k = if memyB s then 0 else 1 := by
  have hk : k < c.states.length := (List.getElem?_eq_some_iff.1 hs).1
  have := h.par k s hs
  unfold mark
  rw [low_at hs]
  cases memyB s
  · simp; omega
  · simp
end Go.Proofs.YtaggnpieofpphaaDoor
