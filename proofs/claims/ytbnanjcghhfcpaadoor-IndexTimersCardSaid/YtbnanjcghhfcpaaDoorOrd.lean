/- Plain laws: numbers as bytes, the highest first, are ordered as the numbers are. -/
import Derived.Test.YtbnanjcghhfcpaaDoorJoin
namespace Go.Proofs.YtbnanjcghhfcpaaDoor
open Go.RowKit

theorem bigB_succ (k n : Nat) : bigB (k + 1) n = UInt8.ofNat (n / 256 ^ k) :: bigB k n := by
  simp only [bigB, List.range_succ_eq_map, List.map_cons, List.map_map]
  congr 1
  apply List.map_congr_left
  intro j hj
  simp only [Function.comp]
  rw [show k + 1 - 1 - (j + 1) = k - 1 - j by omega]

theorem bigB_mod (k n : Nat) : bigB k (n % 256 ^ k) = bigB k n := by
  apply List.map_congr_left
  intro j hj
  have hj : j < k := by simpa using hj
  have e : 256 ^ k = 256 ^ (k - 1 - j) * 256 ^ (j + 1) := by rw [← Nat.pow_add]; congr 1; omega
  rw [e, Nat.mod_mul_right_div_self]
  apply UInt8.toNat_inj.1
  simp only [UInt8.toNat_ofNat']
  rw [Nat.pow_succ, Nat.mul_comm (256 ^ j) 256]
  exact Nat.mod_mul_right_mod _ 256 _

theorem ofNat_lt (a b : Nat) (ha : a < 256) (hb : b < 256) : (UInt8.ofNat a < UInt8.ofNat b) ↔ a < b := by
  rw [UInt8.lt_iff_toNat_lt]
  simp only [UInt8.toNat_ofNat']
  omega
theorem ofNat_eq (a b : Nat) (ha : a < 256) (hb : b < 256) : (UInt8.ofNat a = UInt8.ofNat b) ↔ a = b := by
  rw [← UInt8.toNat_inj]
  simp only [UInt8.toNat_ofNat']
  omega

theorem less_bigB (k : Nat) : ∀ (m n : Nat) (x y : List UInt8), m < 256 ^ k → n < 256 ^ k →
    Op.bytesLess (bigB k m ++ x) (bigB k n ++ y) = if m = n then Op.bytesLess x y else decide (m < n) := by
  induction k with
  | zero =>
    intro m n x y hm hn
    have : m = 0 := by simpa using hm
    have : n = 0 := by simpa using hn
    subst m n
    simp [bigB]
  | succ k ih =>
    intro m n x y hm hn
    have hp : 0 < 256 ^ k := Nat.pow_pos (by decide)
    rw [Nat.pow_succ] at hm hn
    have qm : m / 256 ^ k < 256 := Nat.div_lt_of_lt_mul hm
    have qn : n / 256 ^ k < 256 := Nat.div_lt_of_lt_mul hn
    have em := Nat.div_add_mod m (256 ^ k)
    have en := Nat.div_add_mod n (256 ^ k)
    have rm := Nat.mod_lt m hp
    have rn := Nat.mod_lt n hp
    rw [bigB_succ, bigB_succ, ← bigB_mod k m, ← bigB_mod k n]
    simp only [List.cons_append, Op.bytesLess]
    rw [ih _ _ x y rm rn]
    have e1 : (UInt8.ofNat (m / 256 ^ k) == UInt8.ofNat (n / 256 ^ k)) = decide (m / 256 ^ k = n / 256 ^ k) := by
      rw [Bool.eq_iff_iff]
      simp only [beq_iff_eq, decide_eq_true_eq]
      exact ofNat_eq _ _ qm qn
    have e2 : decide (UInt8.ofNat (m / 256 ^ k) < UInt8.ofNat (n / 256 ^ k)) = decide (m / 256 ^ k < n / 256 ^ k) := by
      rw [Bool.eq_iff_iff]
      simp only [decide_eq_true_eq]
      exact ofNat_lt _ _ qm qn
    rw [e1, e2]
    generalize m / 256 ^ k = a at *
    generalize n / 256 ^ k = b at *
    generalize m % 256 ^ k = c at *
    generalize n % 256 ^ k = d at *
    generalize 256 ^ k = P at *
    by_cases hab : a = b
    · subst hab
      have : (m = n) ↔ (c = d) := by omega
      have h2 : (m < n) ↔ (c < d) := by omega
      simp [this, h2]
    · have : m ≠ n := by
        rintro rfl
        rw [← en] at em
        rcases Nat.lt_or_gt_of_ne hab with h | h
        · have : P * (a + 1) ≤ P * b := Nat.mul_le_mul_left _ h
          rw [Nat.mul_add] at this
          omega
        · have : P * (b + 1) ≤ P * a := Nat.mul_le_mul_left _ h
          rw [Nat.mul_add] at this
          omega
      have h2 : (m < n) ↔ (a < b) := by
        constructor
        · intro h
          rcases Nat.lt_or_gt_of_ne hab with h' | h'
          · exact h'
          · have : P * (b + 1) ≤ P * a := Nat.mul_le_mul_left _ h'
            rw [Nat.mul_add] at this
            omega
        · intro h
          have : P * (a + 1) ≤ P * b := Nat.mul_le_mul_left _ h
          rw [Nat.mul_add] at this
          omega
      simp [this, hab, h2]

theorem bigB_inj (k : Nat) : ∀ (m n : Nat), m < 256 ^ k → n < 256 ^ k → bigB k m = bigB k n → m = n := by
  intro m n hm hn h
  have h1 := less_bigB k m n [] [] hm hn
  have h2 := less_bigB k n m [] [] hn hm
  rw [h] at h1 h2
  rw [less_bigB k n n [] [] hn hn, if_pos rfl] at h1 h2
  by_cases e : m = n
  · exact e
  · rw [if_neg e] at h1
    rw [if_neg (Ne.symm e)] at h2
    simp [Op.bytesLess] at h1 h2
    omega

/-- The order of two timers' keys. -/
theorem less_timerKey (a b c a' b' c' : Nat) (ha : a ≤ 1099511627776) (hb : b ≤ 2147483647) (hc : c < 8) (ha' : a' ≤ 1099511627776) (hb' : b' ≤ 2147483647) (hc' : c' < 8) :
    Op.bytesLess (timerKey a b c) (timerKey a' b' c') = if a = a' then (if b = b' then decide (c < c') else decide (b < b')) else decide (a < a') := by
  have e : ∀ a b c, timerKey a b c = 116 :: (bigB 6 a ++ (bigB 4 b ++ (bigB 1 c ++ []))) := fun a b c => by simp [timerKey, joinB]
  rw [e, e]
  simp only [Op.bytesLess]
  rw [less_bigB 6 a a' _ _ (by omega) (by omega), less_bigB 4 b b' _ _ (by omega) (by omega), less_bigB 1 c c' _ _ (by omega) (by omega)]
  by_cases h1 : a = a' <;> by_cases h2 : b = b' <;> by_cases h3 : c = c' <;> simp [h1, h2, h3, Op.bytesLess]

theorem timerKey_inj (a b c a' b' c' : Nat) (ha : a ≤ 1099511627776) (hb : b ≤ 2147483647) (hc : c < 8) (ha' : a' ≤ 1099511627776) (hb' : b' ≤ 2147483647) (hc' : c' < 8) :
    timerKey a b c = timerKey a' b' c' ↔ a = a' ∧ b = b' ∧ c = c' := by
  constructor
  · intro h
    simp only [timerKey, joinB, List.flatMap_cons, List.flatMap_nil, List.append_nil, List.singleton_append, List.cons.injEq, true_and] at h
    obtain ⟨h1, h2⟩ := List.append_inj h (by simp [bigB_len])
    obtain ⟨h3, h4⟩ := List.append_inj h2 (by simp [bigB_len])
    exact ⟨bigB_inj 6 _ _ (by omega) (by omega) h1, bigB_inj 4 _ _ (by omega) (by omega) h3, bigB_inj 1 _ _ (by omega) (by omega) h4⟩
  · rintro ⟨rfl, rfl, rfl⟩
    rfl
end Go.Proofs.YtbnanjcghhfcpaaDoor
