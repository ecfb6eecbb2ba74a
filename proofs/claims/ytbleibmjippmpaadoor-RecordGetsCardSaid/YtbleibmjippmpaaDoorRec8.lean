/- record.unfold, list; math/bits.TrailingZeros32. -/
import Derived.Test.YtbleibmjippmpaaDoorRec7
import Derived.Lib.TrailingZeros
import Derived.Laws.BitsAllLaws
import Derived.Laws.BitsLemmas
namespace Go.Proofs.YtbleibmjippmpaaDoor
open Go.RowKit

theorem filter_first (p q : Nat → Bool) (k : Nat) (h0 : ∀ i, i < k → p i = false) (h1 : p k = true) (h2 : ∀ i, i ≤ k → q i = false) (h3 : ∀ i, k < i → p i = q i) : ∀ N, ((k < N → (List.range N).filter p = k :: (List.range N).filter q) ∧ (N ≤ k → (List.range N).filter p = [] ∧ (List.range N).filter q = []))
  | 0 => ⟨fun h => by omega, fun _ => ⟨rfl, rfl⟩⟩
  | N + 1 => by
    have ih := filter_first p q k h0 h1 h2 h3 N
    refine ⟨fun h => ?_, fun h => ?_⟩
    · rw [List.range_succ, List.filter_append, List.filter_append]
      by_cases e : N = k
      · subst e
        have := ih.2 (Nat.le_refl _)
        rw [this.1, this.2]
        simp [h1, h2 N (Nat.le_refl _)]
      · have := ih.1 (by omega)
        rw [this]
        simp [List.filter_cons, h3 N (by omega)]
    · have := ih.2 (by omega)
      rw [List.range_succ, List.filter_append, List.filter_append, this.1, this.2]
      simp [h0 N (by omega), h2 N (by omega)]

theorem div_bit (k m i : Nat) : (2 ^ k * (2 * m + 1)) / 2 ^ i % 2 = if i < k then 0 else if i = k then 1 else (2 ^ k * (2 * m)) / 2 ^ i % 2 := by
  by_cases h : i < k
  · rw [if_pos h]
    have e : 2 ^ k = 2 ^ i * (2 * 2 ^ (k - i - 1)) := by
      rw [← Nat.pow_succ', ← Nat.pow_add]
      congr 1
      omega
    rw [e, Nat.mul_assoc, Nat.mul_div_cancel_left _ (Nat.pow_pos (by decide)), Nat.mul_assoc, Nat.mul_mod_right]
  · rw [if_neg h]
    by_cases h2 : i = k
    · subst h2
      rw [if_pos rfl, Nat.mul_div_cancel_left _ (Nat.pow_pos (by decide))]
      omega
    · rw [if_neg h2]
      have e : 2 ^ i = 2 ^ k * (2 * 2 ^ (i - k - 1)) := by
        rw [← Nat.pow_succ', ← Nat.pow_add]
        congr 1
        omega
      rw [e, Nat.mul_div_mul_left _ _ (Nat.pow_pos (by decide)), Nat.mul_div_mul_left _ _ (Nat.pow_pos (by decide)), ← Nat.div_div_eq_div_mul, ← Nat.div_div_eq_div_mul]
      congr 2
      omega
theorem div_bit0 (k m i : Nat) (h : i ≤ k) : (2 ^ k * (2 * m)) / 2 ^ i % 2 = 0 := by
  have e : 2 ^ k = 2 ^ i * 2 ^ (k - i) := by
    rw [← Nat.pow_add]
    congr 1
    omega
  rw [e, Nat.mul_assoc, Nat.mul_div_cancel_left _ (Nat.pow_pos (by decide)), ← Nat.mul_assoc, Nat.mul_comm _ 2, Nat.mul_assoc, Nat.mul_mod_right]
theorem setOf_low (k m : Nat) (hk : k < 32) : setOf (2 ^ k * (2 * m + 1)) = (k : Int) :: setOf (2 ^ k * (2 * m)) := by
  unfold setOf
  have := (filter_first (fun i => (2 ^ k * (2 * m + 1)) / 2 ^ i % 2 == 1) (fun i => (2 ^ k * (2 * m)) / 2 ^ i % 2 == 1) k
    (fun i hi => by simp only [div_bit, if_pos hi]; rfl) (by simp [div_bit]) (fun i hi => by simp only [div_bit0 k m i hi]; rfl) (fun i hi => by simp only [div_bit]; rw [if_neg (by omega), if_neg (by omega)]) 32).1 hk
  rw [this]
  rfl
theorem and_pred (k m : Nat) : (2 ^ k * (2 * m + 1)) &&& (2 ^ k * (2 * m + 1) - 1) = 2 ^ k * (2 * m) := by
  have hp : 0 < 2 ^ k := Nat.pow_pos (by decide)
  have e : 2 ^ k * (2 * m + 1) - 1 = 2 ^ k * (2 * m) + (2 ^ k - 1) := by rw [Nat.mul_add]; omega
  rw [e]
  apply Nat.eq_of_testBit_eq
  intro i
  rw [Nat.testBit_and]
  have h1 : (2 ^ k * (2 * m + 1)).testBit i = (decide (k ≤ i) && (2 * m + 1).testBit (i - k)) := by rw [Nat.mul_comm]; exact Nat.testBit_mul_two_pow _ _ _
  have h2 : (2 ^ k * (2 * m) + (2 ^ k - 1)).testBit i = if i < k then (2 ^ k - 1).testBit i else (2 * m).testBit (i - k) := Nat.testBit_two_pow_mul_add _ (by omega) _
  have h3 : (2 ^ k * (2 * m)).testBit i = (decide (k ≤ i) && (2 * m).testBit (i - k)) := by rw [Nat.mul_comm]; exact Nat.testBit_mul_two_pow _ _ _
  rw [h1, h2, h3]
  by_cases h : i < k
  · simp [show ¬ k ≤ i by omega]
  · rw [if_neg h]
    simp only [show k ≤ i by omega, decide_true, Bool.true_and]
    by_cases he : i - k = 0
    · rw [he]
      simp
    · obtain ⟨j, hj⟩ : ∃ j, i - k = j + 1 := ⟨i - k - 1, by omega⟩
      rw [hj, Nat.testBit_succ, Nat.testBit_succ, show (2 * m + 1) / 2 = m by omega, show 2 * m / 2 = m by omega]
      simp
theorem setOf_zero : setOf 0 = [] := by decide +kernel

theorem ofInt_u32 (a : Nat) (ha : a < 4294967296) : (BitVec.ofInt 32 (a : Int)).toNat = a := by
  rw [BitVec.ofInt_natCast, BitVec.toNat_ofNat]
  exact Nat.mod_eq_of_lt (by omega)
theorem u32_and (a b : Nat) (ha : a < 4294967296) (hb : b < 4294967296) : bits .and .u32 (a : Int) (b : Int) = ((a &&& b : Nat) : Int) := by
  have hx : a &&& b < 2 ^ 32 := Nat.and_lt_two_pow _ (by omega)
  show IntKind.u32.wrap ((BitVec.ofInt 32 (a : Int) &&& BitVec.ofInt 32 (b : Int)).toNat : Int) = _
  rw [BitVec.toNat_and, ofInt_u32 a ha, ofInt_u32 b hb, IntKind.wrap_u32]
  omega

/-- The table of math/bits. -/
def TabAt (w : World) : Prop := ∀ j, j < 32 → w.cell? ⟨9, j, none⟩ = some (.int .u8 ((Lib.deBruijn32tab.getD j 0 : Nat) : Int))
theorem TabAt.below {w w' : World} (h : TabAt w) (hb : Below w.heap.size w w') : TabAt w' := fun j hj => cell_below (h j hj) hb

theorem tz_any (x : Nat) (h0 : x ≠ 0) (hx : x < 4294967296) (w : World) (hT : TabAt w) :
    Calls Tryd.prog 161 #[.int .u32 x] w fun e w' => e = .returned (.int .i64 (Lib.ctz 32 x : Nat)) ∧ w = w' := by
  obtain ⟨hl, hk⟩ := Lib.lowest_bit 32 x h0 hx
  obtain ⟨hi, ht⟩ := Lib.deBruijn32_at _ hk
  have hc := hT _ hi
  rw [ht] at hc
  have e0 : ((x : Int) == 0) = false := by rw [beq_eq_false_iff_ne]; omega
  have e1 : IntKind.u32.wrap (-(x : Int)) = ((2 ^ 32 - x : Nat) : Int) := by rw [IntKind.wrap_u32]; omega
  have e2 : bits .and .u32 (x : Int) ((2 ^ 32 - x : Nat) : Int) = ((2 ^ Lib.ctz 32 x : Nat) : Int) := by rw [u32_and _ _ hx (by omega), hl]
  generalize Lib.ctz 32 x = k at *
  have hp : 2 ^ k ≤ 2147483648 := by
    have : 2 ^ k ≤ 2 ^ 31 := Nat.pow_le_pow_right (by decide) (by omega)
    omega
  clear ht hl h0 hT
  generalize 2 ^ k = q at *
  go_enter Tryd.func161, Tryd.ntmps161
  go_wp2
  go_ret
  exact ⟨rfl, rfl⟩

theorem unfold_any (n : Nat) (hn : n < 4294967296) (w : World) : Calls Tryd.prog 127 #[.int .i64 n] w fun e w' => e = .returned (.int .i64 (unfoldI n)) ∧ w = w' := by
  have ha : bits .and .i64 (n : Int) 1 = ((n % 2 : Nat) : Int) := by
    have h0 : ∀ y : Nat, y < 9223372036854775808 → (BitVec.ofInt 64 (y : Int)).toNat = y := fun y hy => by
      rw [BitVec.ofInt_natCast, BitVec.toNat_ofNat]
      exact Nat.mod_eq_of_lt (by omega)
    show IntKind.i64.wrap ((BitVec.ofInt 64 (n : Int) &&& BitVec.ofInt 64 ((1 : Nat) : Int)).toNat : Int) = _
    rw [BitVec.toNat_and, h0 _ (by omega), h0 _ (by omega), IntKind.wrap_i64, Nat.and_one_is_mod]
    omega
  by_cases h : n % 2 = 1
  · have HU := Lib.hid (show unfoldI n = -(((n + 1) / 2 : Nat) : Int) by rw [unfoldI, if_pos h])
    have e1 : ((n % 2 : Nat) : Int) = 1 := by omega
    rw [e1] at ha
    go_enter Tryd.func127, Tryd.ntmps127
    go_wp2
    go_ret
    rw [HU.out]
    refine ⟨?_, rfl⟩
    have et : ((n : Int) + 1).tdiv 2 = (((n + 1) / 2 : Nat) : Int) := by rw [Int.tdiv_eq_ediv_of_nonneg (by omega)]; omega
    show Ending.returned (.int .i64 (wrap64 (-((n : Int) + 1).tdiv 2))) = _
    rw [et, IntWalk.wrap64_in _ (by omega)]
  · have HU := Lib.hid (show unfoldI n = ((n / 2 : Nat) : Int) by rw [unfoldI, if_neg h])
    have e1 : ((n % 2 : Nat) : Int) = 0 := by omega
    rw [e1] at ha
    go_enter Tryd.func127, Tryd.ntmps127
    go_wp2
    go_ret
    rw [HU.out]
    refine ⟨?_, rfl⟩
    first | rfl | (congr 2; omega) | skip
    done

theorem Tryd.infoInt : (Tryd.prog.info? 3).map (fun i => (i.zero, i.size, i.bytes)) = some (some (.int .i64 0), 1, 8) := by kernel_rfl
theorem setOf_len (n : Nat) : (setOf n).length ≤ 32 := by
  unfold setOf
  rw [List.length_map]
  have := List.length_filter_le (fun (i : Nat) => n / 2 ^ i % 2 == 1) (List.range 32)
  simpa using this
/-- ints as cells -/
abbrev iv (l : List Int) : List Value := l.map (Value.int .i64)
theorem iv_one (l : List Int) : ∀ u ∈ iv l, u.oneCell' = true := by
  intro u hu
  simp only [iv, List.mem_map] at hu
  obtain ⟨b, _, rfl⟩ := hu
  rfl

set_option maxHeartbeats 2000000 in
set_option maxRecDepth 100000 in
theorem list_any (n : Nat) (hn : n < 4294967296) (w : World) (hT : TabAt w) :
    Calls Tryd.prog 148 #[.int .u32 n] w fun e w' => ∃ v, e = .returned v ∧ w'.ownsRow w.heap.size 3 1 v (setOf n).length (iv (setOf n)) ∧ Below w.heap.size w w' := by
  obtain ⟨i0, hi0, hz0, hz1, hz2⟩ := info_parts Tryd.infoInt
  have HT := Lib.hid hT
  clear hT
  go_enter Tryd.func148, Tryd.ntmps148
  go_wp2
  go_loopw [0, 3] (fun v0 v3 wr => ∃ (cur : Nat) (acc : List Int), cur ≤ n ∧ v0 = .int .u32 cur ∧ wr.ownsRow w.heap.size 3 1 v3 acc.length (iv acc) ∧ acc ++ setOf cur = setOf n ∧ Below w.heap.size w wr) (fun v0 _ _ => (intOf v0).toNat)
  case atStart => exact ⟨n, [], Nat.le_refl _, rfl, World.ownsRow_nil _ _ _ _, by simp, Below.refl _ _⟩
  case round =>
    obtain ⟨cur, acc, hc, rfl, hO, hacc, hB⟩ := hrel
    have HA := Lib.hid hacc
    have HO := Lib.hid hO
    have HB := Lib.hid hB
    by_cases h0 : cur = 0
    · subst h0
      rw [setOf_zero, List.append_nil] at hacc
      subst hacc
      clear hB hO
      go_wp2
      go_ret
      exact ⟨_, rfl, HO.out, HB.out⟩
    · obtain ⟨m, hm, hk⟩ := Lib.ctzFrom_spec 32 cur (by omega) (by omega)
      have hcz : Lib.ctz 32 cur = Lib.ctzFrom 32 cur := by simp [Lib.ctz, h0]
      rw [← hcz] at hm hk
      have hs := setOf_low (Lib.ctz 32 cur) m hk
      have ha := and_pred (Lib.ctz 32 cur) m
      rw [← hm] at hs ha
      have hlt : 2 ^ Lib.ctz 32 cur * (2 * m) < cur := by
        have : 0 < 2 ^ Lib.ctz 32 cur := Nat.pow_pos (by decide)
        have e : cur = 2 ^ Lib.ctz 32 cur * (2 * m) + 2 ^ Lib.ctz 32 cur := by
          have := hm
          rw [Nat.mul_add, Nat.mul_one] at this
          exact this
        omega
      have hu : bits .and .u32 (cur : Int) ((cur : Int) - 1) = ((2 ^ Lib.ctz 32 cur * (2 * m) : Nat) : Int) := by
        rw [show (cur : Int) - 1 = ((cur - 1 : Nat) : Int) by omega, u32_and _ _ (by omega) (by omega), ha]
      have hal : acc.length ≤ 32 := by
        have := congrArg List.length hacc
        rw [List.length_append] at this
        have := setOf_len n
        omega
      have e0 : ((cur : Int) != 0) = true := by rw [bne_iff_ne]; omega
      have TW := Lib.hid (HT.out.below hB)
      have HS := Lib.hid hs
      have HC := Lib.hid hk
      clear hm hs ha hcz hacc hB hO hk
      generalize hkk : Lib.ctz 32 cur = k at *
      generalize 2 ^ k * (2 * m) = nx at *
      have hkk' := Lib.hid hkk
      clear hkk
      go_wp2_with (first
        | (go_at_call 161; refine (tz_any cur h0 (by omega) _ TW.out).mono ?_; rintro e w' ⟨rfl, rfl⟩; rw [hkk'.out])
        | (at_builtin; refine wpList_append_reads _ rfl (.tmp 10) (.tmp 13) _ rfl w.heap.size 3 i0 _ 1 8 Tryd.underlying46 hi0 hz0 hz1 hz2 rfl (by decide) u3 acc.length (iv acc) rfl (HO.out.alloc _) (wr.heap.size + 1) (some ⟨wr.heap.size, 0, none⟩) 1 1 [.int .i64 k] rfl (Reads.boxed wr 3 #[.int .i64 k] 1 1 rfl) (by simp [Value.oneCell']) (by unfold maxLen; omega) (by omega) (by have := HB.out.size; simp; omega) ?_; intro v2 w2 hown2 hg2 hat2))
      have hB2 := Lib.hid (below_append HB.out HB.out.size hg2 HO.out)
      have HO3 := Lib.hid hown2
      clear hown2 hg2 hat2
      go_wp2
      go_roundw
      case rel =>
        refine ⟨nx, acc ++ [(k : Int)], by omega, by first | rfl | go_num, ?_, ?_, hB2.out⟩
        · have := HO3.out
          simpa [iv] using this
        · rw [← HA.out, HS.out]
          simp
      case measure => simp [intOf]; omega
end Go.Proofs.YtbleibmjippmpaaDoor
