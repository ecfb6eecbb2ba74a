/- Trees of charts, plain: the way up, the walk, sorting by the walk. No program is named here. -/
import Derived.Test.YtlmekdfleciejaaGreatDoorM12
namespace Go.Proofs.YtlmekdfleciejaaGreatDoor
open Go.RowKit
def inZ (c : ChD) (i : Int) : Bool := decide (0 ≤ i) && decide (i < c.states.length)
def parZ (c : ChD) (i : Int) : Int := match at_ c i with
  | some s => s.parent
  | none => -1
theorem inZ_iff {c : ChD} {i : Int} : inZ c i = true ↔ 0 ≤ i ∧ i < c.states.length := by
  unfold inZ
  rw [Bool.and_eq_true, decide_eq_true_eq, decide_eq_true_eq]
theorem inZ_nat {c : ChD} {k : Nat} : inZ c k = true ↔ k < c.states.length := by rw [inZ_iff]; omega
theorem at_nat (c : ChD) (k : Nat) : at_ c k = c.states[k]? := by unfold at_; rw [if_pos (by omega), Int.toNat_natCast]
theorem at_in {c : ChD} {i : Int} (h : inZ c i = true) : ∃ k s, i = (k : Nat) ∧ c.states[k]? = some s ∧ at_ c i = some s := by
  obtain ⟨h1, h2⟩ := inZ_iff.1 h
  have hk : i.toNat < c.states.length := by omega
  refine ⟨i.toNat, c.states[i.toNat], by omega, List.getElem?_eq_getElem hk, ?_⟩
  unfold at_
  rw [if_pos h1, List.getElem?_eq_getElem hk]
theorem par_lt {c : ChD} (h : Right c) {i : Int} (hi : inZ c i = true) : -1 ≤ parZ c i ∧ parZ c i < i := by
  obtain ⟨k, s, rfl, h1, h2⟩ := at_in hi
  unfold parZ
  rw [h2]
  exact h.par k s h1
theorem par_nat {c : ChD} {k : Nat} {s : StD} (h : c.states[k]? = some s) : parZ c k = s.parent := by
  unfold parZ
  rw [at_nat, h]
/-! The way up -/
def upF (c : ChD) : Nat → Int → List Int
  | 0, _ => []
  | f + 1, i => if inZ c i = true then parZ c i :: upF c f (parZ c i) else []
def upL (c : ChD) (i : Int) : List Int := upF c 40 i
theorem upF_out {c : ChD} {i : Int} (h : inZ c i = false) (f : Nat) : upF c f i = [] := by
  cases f with
  | zero => rfl
  | succ f => unfold upF; rw [h]; simp
theorem up_fuel {c : ChD} (h : Right c) : ∀ (f g : Nat) (i : Int), i < f → i < g → upF c f i = upF c g i
  | 0, g, i, h1, h2 => by
    have : inZ c i = false := by
      cases hh : inZ c i
      · rfl
      · have := inZ_iff.1 hh; omega
    rw [upF_out this, upF_out this]
  | f + 1, g, i, h1, h2 => by
    cases hh : inZ c i with
    | false => rw [upF_out hh, upF_out hh]
    | true =>
      have h0 := (inZ_iff.1 hh).1
      obtain ⟨g', rfl⟩ : ∃ g', g = g' + 1 := ⟨g - 1, by omega⟩
      have := par_lt h hh
      unfold upF
      rw [hh]
      simp only [if_true]
      rw [up_fuel h f g' (parZ c i) (by omega) (by omega)]
theorem up_out {c : ChD} {i : Int} (h : inZ c i = false) : upL c i = [] := upF_out h _
theorem up_cons {c : ChD} (h : Right c) {i : Int} (hi : inZ c i = true) : upL c i = parZ c i :: upL c (parZ c i) := by
  have hf := h.few
  have h2 := inZ_iff.1 hi
  have h3 := par_lt h hi
  show upF c (39 + 1) i = parZ c i :: upF c 40 (parZ c i)
  rw [show upF c (39 + 1) i = if inZ c i = true then parZ c i :: upF c 39 (parZ c i) else [] from rfl, if_pos hi, up_fuel h 39 40 _ (by omega) (by omega)]
theorem up_lt {c : ChD} (h : Right c) : ∀ (f : Nat) (i : Int) (k : Int), k ∈ upF c f i → -1 ≤ k ∧ k < i
  | 0, i, k, hk => by simp [upF] at hk
  | f + 1, i, k, hk => by
    cases hh : inZ c i with
    | false => rw [upF_out hh] at hk; simp at hk
    | true =>
      have := par_lt h hh
      unfold upF at hk
      rw [hh] at hk
      simp only [if_true, List.mem_cons] at hk
      rcases hk with rfl | hk
      · exact this
      · have := up_lt h f _ k hk
        omega
theorem up_mem {c : ChD} (h : Right c) {i : Int} (hi : inZ c i = true) {k : Int} : k ∈ upL c i ↔ k = parZ c i ∨ k ∈ upL c (parZ c i) := by rw [up_cons h hi, List.mem_cons]
theorem up_root {c : ChD} (h : Right c) : ∀ (n : Nat) (i : Int), inZ c i = true → i < n → -1 ∈ upL c i
  | 0, i, hi, hn => by have := inZ_iff.1 hi; omega
  | n + 1, i, hi, hn => by
    rw [up_mem h hi]
    have hp := par_lt h hi
    by_cases e : parZ c i = -1
    · exact .inl e.symm
    · have h2 := inZ_iff.1 hi
      exact .inr (up_root h n _ (inZ_iff.2 (by omega)) (by omega))
theorem up_trans {c : ChD} (h : Right c) : ∀ (n : Nat) (i j k : Int), i < n → j ∈ upL c i → k ∈ upL c j → k ∈ upL c i
  | 0, i, j, k, hn, hj, hk => by
    cases hh : inZ c i with
    | false => rw [up_out hh] at hj; simp at hj
    | true => have := inZ_iff.1 hh; omega
  | n + 1, i, j, k, hn, hj, hk => by
    cases hh : inZ c i with
    | false => rw [up_out hh] at hj; simp at hj
    | true =>
      rw [up_mem h hh] at hj ⊢
      have hp := par_lt h hh
      rcases hj with rfl | hj
      · exact .inr hk
      · exact .inr (up_trans h n _ j k (by omega) hj hk)
/-! What is above a state, as bits -/
def maskF (c : ChD) : Nat → Int → Nat
  | 0, _ => 0
  | f + 1, i => if inZ c i = true then (if 0 ≤ parZ c i then maskF c f (parZ c i) ||| 2 ^ (parZ c i).toNat else 0) else 0
theorem mask_bit {c : ChD} (h : Right c) : ∀ (f : Nat) (i : Int) (k : Nat), (maskF c f i).testBit k = decide ((k : Int) ∈ upF c f i)
  | 0, i, k => by simp [maskF, upF]
  | f + 1, i, k => by
    unfold maskF upF
    cases hh : inZ c i with
    | false => simp
    | true =>
      simp only [if_true]
      have hp := par_lt h hh
      by_cases e : 0 ≤ parZ c i
      · rw [if_pos e, Nat.testBit_or, mask_bit h f, Nat.testBit_two_pow]
        by_cases e2 : (k : Int) = parZ c i
        · have : (parZ c i).toNat = k := by omega
          simp [e2, this]
        · have : ¬ (parZ c i).toNat = k := by omega
          simp [e2, this]
      · rw [if_neg e]
        have hm : parZ c i = -1 := by omega
        have hz : inZ c (-1) = false := by
          cases hq : inZ c (-1)
          · rfl
          · have := inZ_iff.1 hq; omega
        rw [hm, upF_out hz]
        simp
def mask (c : ChD) (i : Int) : Nat := maskF c 40 i
theorem mask_at {c : ChD} (h : Right c) (i : Int) (k : Nat) : (mask c i).testBit k = decide ((k : Int) ∈ upL c i) := mask_bit h 40 i k
theorem mask_small {c : ChD} (h : Right c) {i : Int} (hi : i < 32) : mask c i < 2 ^ 32 := by
  apply Nat.lt_pow_two_of_testBit
  intro k hk
  rw [mask_at h]
  simp only [decide_eq_false_iff_not]
  intro hm
  have := up_lt h 40 i k hm
  omega
theorem mask_next {c : ChD} (h : Right c) {i : Int} (hi : inZ c i = true) : mask c i = if 0 ≤ parZ c i then mask c (parZ c i) ||| 2 ^ (parZ c i).toNat else 0 := by
  apply Nat.eq_of_testBit_eq
  intro k
  have hp := par_lt h hi
  rw [mask_at h, up_cons h hi]
  by_cases e : 0 ≤ parZ c i
  · rw [if_pos e, Nat.testBit_or, mask_at h, Nat.testBit_two_pow]
    by_cases e2 : (k : Int) = parZ c i
    · have : (parZ c i).toNat = k := by omega
      simp [e2, this]
    · have : ¬ (parZ c i).toNat = k := by omega
      simp [e2, this]
  · rw [if_neg e]
    have hm : parZ c i = -1 := by omega
    have hz : inZ c (-1) = false := by
      cases hq : inZ c (-1)
      · rfl
      · have := inZ_iff.1 hq; omega
    rw [hm, up_out hz]
    simp
theorem flatMap_same {α β : Type} {f g : α → List β} : ∀ {l : List α}, (∀ x ∈ l, f x = g x) → l.flatMap f = l.flatMap g
  | [], _ => rfl
  | x :: l, h => by
    simp only [List.flatMap_cons]
    rw [h x (by simp), flatMap_same fun y hy => h y (by simp [hy])]
/-! The walk -/
def walkF (c : ChD) : Nat → Int → List Nat
  | 0, _ => []
  | f + 1, i => (kidsL c i false).flatMap fun k => k :: walkF c f k
def walkL (c : ChD) (i : Int) : List Nat := walkF c 40 i
theorem kid_iff {c : ChD} {i : Int} {k : Nat} : k ∈ kidsL c i false ↔ k < c.states.length ∧ parZ c k = i := by
  unfold kidsL kidsTo
  rw [List.mem_filter, List.mem_range]
  constructor
  · rintro ⟨h1, h2⟩
    obtain ⟨s, hs⟩ : ∃ s, c.states[k]? = some s := ⟨c.states[k], List.getElem?_eq_getElem h1⟩
    refine ⟨h1, ?_⟩
    unfold isKid at h2
    rw [hs] at h2
    rw [par_nat hs]
    simpa using h2
  · rintro ⟨h1, h2⟩
    obtain ⟨s, hs⟩ : ∃ s, c.states[k]? = some s := ⟨c.states[k], List.getElem?_eq_getElem h1⟩
    refine ⟨h1, ?_⟩
    unfold isKid
    rw [hs]
    rw [par_nat hs] at h2
    simp [h2]
theorem kidsL_nodup (c : ChD) (i : Int) (real : Bool) : (kidsL c i real).Nodup := List.Nodup.sublist List.filter_sublist List.nodup_range
theorem kid_real {c : ChD} {i : Int} {k : Nat} (h : k ∈ kidsL c i true) : k ∈ kidsL c i false ∧ ∃ s, c.states[k]? = some s ∧ memyB s = false := by
  unfold kidsL kidsTo at h ⊢
  rw [List.mem_filter] at h ⊢
  obtain ⟨h1, h2⟩ := h
  unfold isKid at h2 ⊢
  cases hs : c.states[k]? with
  | none => rw [hs] at h2; cases h2
  | some s =>
    rw [hs] at h2
    simp at h2 ⊢
    exact ⟨⟨by simpa using h1, h2.1⟩, h2.2⟩
theorem kid_gt {c : ChD} (h : Right c) {i : Int} {k : Nat} (hk : k ∈ kidsL c i false) : i < k ∧ k < c.states.length := by
  obtain ⟨h1, h2⟩ := kid_iff.1 hk
  have := par_lt h (inZ_nat.2 h1)
  omega
theorem walk_fuel {c : ChD} (h : Right c) : ∀ (f g : Nat) (i : Int), (c.states.length : Int) ≤ i + f → (c.states.length : Int) ≤ i + g → walkF c f i = walkF c g i := by
  have none : ∀ (g : Nat) (i : Int), (c.states.length : Int) ≤ i → walkF c g i = [] := fun g i hi => by
    cases g with
    | zero => rfl
    | succ g =>
      unfold walkF
      have : kidsL c i false = [] := List.eq_nil_iff_forall_not_mem.2 fun k hk => by have := kid_gt h hk; omega
      rw [this]
      rfl
  intro f
  induction f with
  | zero => intro g i h1 h2; rw [none g i (by omega)]; rfl
  | succ f ih =>
    intro g i h1 h2
    cases g with
    | zero => rw [none (f + 1) i (by omega)]; rfl
    | succ g =>
      unfold walkF
      apply flatMap_same
      intro k hk
      have := kid_gt h hk
      rw [ih g k (by omega) (by omega)]
theorem walk_eq {c : ChD} (h : Right c) {i : Int} (_hi : -1 ≤ i) : walkL c i = (kidsL c i false).flatMap fun k => k :: walkL c k := by
  have hf := h.few
  show (kidsL c i false).flatMap (fun k => k :: walkF c 39 k) = _
  apply flatMap_same
  intro k hk
  have := kid_gt h hk
  rw [show walkF c 39 k = walkL c k from walk_fuel h 39 40 k (by omega) (by omega)]
theorem walk_mem {c : ChD} (h : Right c) : ∀ (n : Nat) (i : Int) (m : Nat), -1 ≤ i → (c.states.length : Int) ≤ i + n → (m ∈ walkL c i ↔ m < c.states.length ∧ i ∈ upL c m)
  | 0, i, m, hi, hn => by
    rw [walk_eq h hi]
    have : kidsL c i false = [] := List.eq_nil_iff_forall_not_mem.2 fun k hk => by have := kid_gt h hk; omega
    rw [this]
    simp only [List.flatMap_nil, List.not_mem_nil, false_iff, not_and]
    intro h1 h2
    have := up_lt h 40 m i h2
    omega
  | n + 1, i, m, hi, hn => by
    rw [walk_eq h hi, List.mem_flatMap]
    constructor
    · rintro ⟨k, hk, hm⟩
      have hg := kid_gt h hk
      obtain ⟨k1, k2⟩ := kid_iff.1 hk
      rcases List.mem_cons.1 hm with rfl | hm
      · exact ⟨k1, (up_mem h (inZ_nat.2 k1)).2 (.inl k2.symm)⟩
      · obtain ⟨m1, m2⟩ := (walk_mem h n k m (by omega) (by omega)).1 hm
        refine ⟨m1, up_trans h 40 m k i (by have := h.few; omega) m2 ((up_mem h (inZ_nat.2 k1)).2 (.inl k2.symm))⟩
    · rintro ⟨h1, h2⟩
      have key : ∀ (d : Nat) (m : Nat), m < d → m < c.states.length → i ∈ upL c m → ∃ k ∈ kidsL c i false, m = k ∨ (k : Int) ∈ upL c m := fun d => by
        induction d with
        | zero => intro m hd; omega
        | succ d ih =>
          intro m hd hm hu
          have hin := inZ_nat.2 hm
          rcases (up_mem h hin).1 hu with e | e
          · exact ⟨m, kid_iff.2 ⟨hm, e.symm⟩, .inl rfl⟩
          · have hp := par_lt h hin
            have h0 : 0 ≤ parZ c m := by
              rcases Int.lt_or_le (parZ c m) 0 with q | q
              · have hz : inZ c (parZ c m) = false := by
                  cases hq : inZ c (parZ c m)
                  · rfl
                  · have := inZ_iff.1 hq; omega
                rw [up_out hz] at e; simp at e
              · exact q
            obtain ⟨p, hpe⟩ : ∃ p : Nat, parZ c m = p := ⟨(parZ c m).toNat, by omega⟩
            rw [hpe] at e hp
            obtain ⟨k, hk, hk2⟩ := ih p (by omega) (by omega) e
            refine ⟨k, hk, .inr ((up_mem h hin).2 ?_)⟩
            rw [hpe]
            rcases hk2 with rfl | hk2
            · exact .inl rfl
            · exact .inr hk2
      obtain ⟨k, hk, hk2⟩ := key (m + 1) m (by omega) h1 h2
      have hg := kid_gt h hk
      refine ⟨k, hk, List.mem_cons.2 ?_⟩
      rcases hk2 with e | e
      · exact .inl e
      · exact .inr ((walk_mem h n k m (by omega) (by omega)).2 ⟨h1, e⟩)
theorem walk_top {c : ChD} (h : Right c) (m : Nat) : m ∈ walkL c (-1) ↔ m < c.states.length := by
  rw [walk_mem h 40 (-1) m (by omega) (by have := h.few; omega)]
  exact ⟨fun h => h.1, fun hm => ⟨hm, up_root h (m + 1) m (inZ_nat.2 hm) (by omega)⟩⟩
theorem kid_one {c : ChD} (h : Right c) {i : Int} {k1 k2 : Nat} (h1 : k1 ∈ kidsL c i false) (h2 : k2 ∈ kidsL c i false) : ∀ (d m : Nat), m < d → m < c.states.length → (m = k1 ∨ (k1 : Int) ∈ upL c m) → (m = k2 ∨ (k2 : Int) ∈ upL c m) → k1 = k2 := by
  obtain ⟨a1, b1⟩ := kid_iff.1 h1
  obtain ⟨a2, b2⟩ := kid_iff.1 h2
  have no : ∀ {x y : Nat}, x < c.states.length → parZ c x = i → y < c.states.length → parZ c y = i → ¬ (y : Int) ∈ upL c x := fun {x y} hx px hy py hm => by
    have q1 := par_lt h (inZ_nat.2 hx)
    have q2 := par_lt h (inZ_nat.2 hy)
    rcases (up_mem h (inZ_nat.2 hx)).1 hm with e | e
    · omega
    · have := up_lt h 40 _ _ e
      omega
  intro d
  induction d with
  | zero => intro m hd; omega
  | succ d ih =>
    intro m hd hm e1 e2
    rcases e1 with rfl | e1
    · rcases e2 with rfl | e2
      · rfl
      · exact absurd e2 (no a1 b1 a2 b2)
    · rcases e2 with rfl | e2
      · exact absurd e1 (no a2 b2 a1 b1)
      · have hin := inZ_nat.2 hm
        have hp := par_lt h hin
        have h0 : 0 ≤ parZ c m := by
          rcases Int.lt_or_le (parZ c m) 0 with q | q
          · have hz : inZ c (parZ c m) = false := by
              cases hq : inZ c (parZ c m)
              · rfl
              · have := inZ_iff.1 hq; omega
            rw [up_mem h hin, up_out hz] at e1
            rcases e1 with e | e
            · omega
            · simp at e
          · exact q
        obtain ⟨p, hpe⟩ : ∃ p : Nat, parZ c m = p := ⟨(parZ c m).toNat, by omega⟩
        rw [up_mem h hin, hpe] at e1 e2
        rw [hpe] at hp
        exact ih p (by omega) (by omega) (by rcases e1 with e | e; exact .inl (by omega); exact .inr e) (by rcases e2 with e | e; exact .inl (by omega); exact .inr e)
theorem walk_nodup {c : ChD} (h : Right c) : ∀ (n : Nat) (i : Int), -1 ≤ i → (c.states.length : Int) ≤ i + n → (walkL c i).Nodup
  | 0, i, hi, hn => by
    rw [walk_eq h hi]
    have : kidsL c i false = [] := List.eq_nil_iff_forall_not_mem.2 fun k hk => by have := kid_gt h hk; omega
    rw [this]
    simp
  | n + 1, i, hi, hn => by
    rw [walk_eq h hi]
    have mem : ∀ k ∈ kidsL c i false, ∀ m, m ∈ k :: walkL c k → m < c.states.length ∧ (m = k ∨ (k : Int) ∈ upL c m) := fun k hk m hm => by
      have hg := kid_gt h hk
      rcases List.mem_cons.1 hm with rfl | hm
      · exact ⟨hg.2, .inl rfl⟩
      · obtain ⟨q1, q2⟩ := (walk_mem h n k m (by omega) (by omega)).1 hm
        exact ⟨q1, .inr q2⟩
    have hnd := kidsL_nodup c i false
    rw [List.nodup_iff_pairwise_ne] at hnd
    rw [List.nodup_iff_pairwise_ne, List.pairwise_flatMap]
    refine ⟨fun k hk => ?_, ?_⟩
    · rw [← List.nodup_iff_pairwise_ne, List.nodup_cons]
      have hg := kid_gt h hk
      refine ⟨fun hm => ?_, walk_nodup h n k (by omega) (by omega)⟩
      have := (walk_mem h n k k (by omega) (by omega)).1 hm
      have := up_lt h 40 _ _ this.2
      omega
    · refine List.Pairwise.imp_of_mem (R := fun a b => a ≠ b) ?_ hnd
      intro k1 k2 hk1 hk2 hne m1 hm1 m2 hm2 e
      subst e
      obtain ⟨q1, q2⟩ := mem k1 hk1 m1 hm1
      obtain ⟨_, q3⟩ := mem k2 hk2 m1 hm2
      exact hne (kid_one h hk1 hk2 (m1 + 1) m1 (by omega) q1 q2 q3)
/-! Sorting by the walk -/
def sortL (c : ChD) (l : List Int) : List Nat := if l.all (inZ c) = true then (walkL c (-1)).filter fun k => l.contains (k : Int) else []
end Go.Proofs.YtlmekdfleciejaaGreatDoor
