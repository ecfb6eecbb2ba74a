/- field.Take and the document's; numbers of bytes, the lowest first. -/
import Derived.Test.YtbleibmjippmpaaDoorField
import Derived.Test.YtbleibmjippmpaaDoorNums
namespace Go.Proofs.YtbleibmjippmpaaDoor
open Go.RowKit

def valLE : List UInt8 → Nat
  | [] => 0
  | c :: r => c.toNat + 256 * valLE r
theorem valLE_lt : ∀ l : List UInt8, valLE l < 256 ^ l.length
  | [] => by simp [valLE]
  | c :: r => by
    have := valLE_lt r
    have := c.toNat_lt
    rw [valLE, List.length_cons, Nat.pow_succ]
    omega
theorem valLE_snoc (l : List UInt8) (c : UInt8) : valLE (l ++ [c]) = valLE l + c.toNat * 256 ^ l.length := by
  induction l with
  | nil => simp [valLE]
  | cons d l ih =>
    simp only [List.cons_append, valLE, ih, List.length_cons, Nat.pow_succ, Nat.mul_add]
    rw [Nat.add_assoc, Nat.mul_comm (256 ^ l.length) 256, ← Nat.mul_assoc, ← Nat.mul_assoc, Nat.mul_comm c.toNat 256]
theorem valLE_lowB (k : Nat) : ∀ n, n < 256 ^ k → valLE (lowB k n) = n := by
  induction k with
  | zero => intro n hn; simp at hn; subst hn; rfl
  | succ k ih =>
    intro n hn
    rw [Nat.pow_succ] at hn
    have e : lowB (k + 1) n = UInt8.ofNat n :: lowB k (n / 256) := by
      simp only [lowB, List.range_succ_eq_map, List.map_cons, List.map_map]
      congr 1
      · simp
      · apply List.map_congr_left
        intro j _
        simp only [Function.comp]
        rw [Nat.div_div_eq_div_mul, ← Nat.pow_succ']
    rw [e, valLE, ih _ (by omega)]
    simp only [UInt8.toNat_ofNat']
    omega

theorem or_add_u (a b : Nat) (ha : a < 72057594037927936) (hb : b < 256) : bits .or .u64 ((a : Int) * 256) (b : Int) = (a : Int) * 256 + b := by
  rw [show (a : Int) * 256 = ((a * 256 : Nat) : Int) by omega]
  have h0 : ∀ x : Nat, x < 18446744073709551616 → (BitVec.ofInt 64 (x : Int)).toNat = x := fun x hx => by
    rw [BitVec.ofInt_natCast, BitVec.toNat_ofNat]
    exact Nat.mod_eq_of_lt (by omega)
  show IntKind.u64.wrap ((BitVec.ofInt 64 ((a * 256 : Nat) : Int) ||| BitVec.ofInt 64 (b : Int)).toNat : Int) = _
  rw [BitVec.toNat_or, h0 _ (by omega), h0 _ (by omega), IntKind.wrap_u64]
  have e : a * 256 ||| b = a * 256 + b := by
    have := Nat.two_pow_add_eq_or_of_lt (i := 8) (b := b) (by omega) a
    rw [Nat.mul_comm a 256]
    exact this.symm
  rw [e]
  omega

/-- The bytes at a place. -/
def cut (bs : List UInt8) (at_ wd : Nat) : List UInt8 := (bs.drop at_).take wd
theorem cut_len (bs : List UInt8) (at_ wd : Nat) (h : at_ + wd ≤ bs.length) : (cut bs at_ wd).length = wd := by simp [cut]; omega
theorem cut_get (bs : List UInt8) (at_ wd j : Nat) (h : at_ + wd ≤ bs.length) (hj : j < wd) : (cut bs at_ wd)[j]'(by rw [cut_len _ _ _ h]; exact hj) = bs[at_ + j]'(by omega) := by
  simp [cut]
theorem bv_get (bs : List UInt8) (j : Nat) (h : j < bs.length) : (bv bs)[j]? = some (.int .u8 (bs[j].toNat : Int)) := by simp [bv, h]

set_option maxHeartbeats 1000000 in
set_option maxRecDepth 100000 in
theorem ftake_yes (A : Option Addr) (n c : Nat) (bs : List UInt8) (at_ wd : Nat) (w : World) (hn : bs.length = n) (hr : Reads w w.heap.size 1 A n (bv bs)) (hl : n ≤ 140737488351232)
    (hw : wd = 1 ∨ wd = 2 ∨ wd = 4 ∨ wd = 8) (hf : at_ + wd ≤ n) (ka kw : Int) (hka : ka = at_) (hkw : kw = wd) :
    Calls Tryd.prog 67 #[.slice A n c, .int .i64 ka, .int .i64 kw] w fun e w' => e = .returned (.tuple #[.int .u64 (valLE (cut bs at_ wd)), .nilIface]) ∧ w = w' := by
  subst hka hkw
  have b1 : widthB wd = true := by simp [widthB]; omega
  have hwd : wd ≤ 8 := by omega
  have hw0 : 1 ≤ wd := by omega
  have hN := Lib.hid hn
  obtain ⟨b, off, rfl, _, hcell⟩ := hr.2 (by omega)
  have HC := Lib.hid hcell
  clear hn hr hcell hw
  go_enter Tryd.func67, Tryd.ntmps67
  go_wp2_with (go_at_call 115; refine (fright_any _ _).mono ?_; rintro e w' ⟨rfl, rfl⟩)
  go_loop [8, 9] (fun v8 v9 => ∃ k m : Nat, k ≤ wd ∧ v9 = .int .i64 ((wd : Int) - 1 - k) ∧ v8 = .int .u64 m ∧ m = valLE ((cut bs at_ wd).drop (wd - k))) (fun _ i => (intOf i + 1).toNat)
  case atStart => exact ⟨0, 0, by omega, by simp, rfl, by rw [Nat.sub_zero, List.drop_eq_nil_of_le (by rw [cut_len _ _ _ (by rw [hN.out]; exact hf)]; exact Nat.le_refl _)]; rfl⟩
  case round =>
    obtain ⟨k, m, hk, rfl, rfl, hm⟩ := hrel
    by_cases hlt : k < wd
    · have hj : at_ + (wd - 1 - k) < bs.length := by rw [hN.out]; omega
      have hc := HC.out (at_ + (wd - 1 - k)) _ (bv_get bs _ hj)
      have hm2 : m < 72057594037927936 := by
        have h1 := valLE_lt ((cut bs at_ wd).drop (wd - k))
        have h2 : ((cut bs at_ wd).drop (wd - k)).length ≤ 7 := by rw [List.length_drop, cut_len _ _ _ (by rw [hN.out]; exact hf)]; omega
        have h3 : 256 ^ ((cut bs at_ wd).drop (wd - k)).length ≤ 256 ^ 7 := Nat.pow_le_pow_right (by decide) h2
        omega
      have hs : valLE ((cut bs at_ wd).drop (wd - (k + 1))) = bs[at_ + (wd - 1 - k)].toNat + 256 * valLE ((cut bs at_ wd).drop (wd - k)) := by
        rw [List.drop_eq_getElem_cons (show wd - (k + 1) < (cut bs at_ wd).length by rw [cut_len _ _ _ (by rw [hN.out]; exact hf)]; omega), valLE, cut_get bs at_ wd _ (by rw [hN.out]; exact hf) (by omega)]
        rw [show wd - (k + 1) + 1 = wd - k by omega]
        congr 3
        omega
      have hx := bs[at_ + (wd - 1 - k)].toNat_lt
      have ho := or_add_u m bs[at_ + (wd - 1 - k)].toNat hm2 hx
      have e3 : (at_ : Int) + ((wd : Int) - 1 - k) = ((at_ + (wd - 1 - k) : Nat) : Int) := by omega
      have HS := Lib.hid hs
      have HM := Lib.hid hm
      generalize bs[at_ + (wd - 1 - k)].toNat = x at *
      clear hs hm
      go_wp2_with fail
      go_round
      case rel =>
        refine ⟨k + 1, m * 256 + x, by omega, ?_, by go_num, ?_⟩
        · congr 1
          omega
        · rw [HS.out, ← HM.out]
          omega
      case measure => simp [intOf]; omega
    · obtain rfl : k = wd := by omega
      have HM := Lib.hid hm
      clear hm
      go_wp2_with fail
      go_ret2
      refine ⟨?_, rfl⟩
      rw [HM.out, Nat.sub_self, List.drop_zero]
      rfl
end Go.Proofs.YtbleibmjippmpaaDoor
