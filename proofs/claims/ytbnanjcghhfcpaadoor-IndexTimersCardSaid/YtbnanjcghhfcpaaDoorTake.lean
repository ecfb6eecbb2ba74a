/- field.Take and the document's; numbers of bytes, the lowest first. -/
import Derived.Test.YtbnanjcghhfcpaaDoorField
import Derived.Test.YtbnanjcghhfcpaaDoorNums
namespace Go.Proofs.YtbnanjcghhfcpaaDoor
open Go.RowKit

def valLE : List UInt8 → Nat
  | [] => 0
  | c :: r => c.toNat + 256 * valLE r
theorem valLE_lt : ∀ l : List UInt8, valLE l < 256 ^ l.length
  | [] => by simp [valLE]
  | c :: r => by
    have := valLE_lt r
    have := c.toNat_lt
    rw [valLE, List.length_cons, Nat.pow_succ]
    omega
theorem valLE_snoc (l : List UInt8) (c : UInt8) : valLE (l ++ [c]) = valLE l + c.toNat * 256 ^ l.length := by
  induction l with
  | nil => simp [valLE]
  | cons d l ih =>
    simp only [List.cons_append, valLE, ih, List.length_cons, Nat.pow_succ, Nat.mul_add]
    rw [Nat.add_assoc, Nat.mul_comm (256 ^ l.length) 256, ← Nat.mul_assoc, ← Nat.mul_assoc, Nat.mul_comm c.toNat 256]
theorem valLE_lowB (k : Nat) : ∀ n, n < 256 ^ k → valLE (lowB k n) = n := by
  induction k with
  | zero => intro n hn; simp at hn; subst hn; rfl
  | succ k ih =>
    intro n hn
    rw [Nat.pow_succ] at hn
    have e : lowB (k + 1) n = UInt8.ofNat n :: lowB k (n / 256) := by
      simp only [lowB, List.range_succ_eq_map, List.map_cons, List.map_map]
      congr 1
      · simp
      · apply List.map_congr_left
        intro j _
        simp only [Function.comp]
        rw [Nat.div_div_eq_div_mul, ← Nat.pow_succ']
    rw [e, valLE, ih _ (by omega)]
    simp only [UInt8.toNat_ofNat']
    omega

theorem or_add_u (a b : Nat) (ha : a < 72057594037927936) (hb : b < 256) : bits .or .u64 ((a : Int) * 256) (b : Int) = (a : Int) * 256 + b := by
  rw [show (a : Int) * 256 = ((a * 256 : Nat) : Int) by omega]
  have h0 : ∀ x : Nat, x < 18446744073709551616 → (BitVec.ofInt 64 (x : Int)).toNat = x := fun x hx => by
    rw [BitVec.ofInt_natCast, BitVec.toNat_ofNat]
    exact Nat.mod_eq_of_lt (by omega)
  show IntKind.u64.wrap ((BitVec.ofInt 64 ((a * 256 : Nat) : Int) ||| BitVec.ofInt 64 (b : Int)).toNat : Int) = _
  rw [BitVec.toNat_or, h0 _ (by omega), h0 _ (by omega), IntKind.wrap_u64]
  have e : a * 256 ||| b = a * 256 + b := by
    have := Nat.two_pow_add_eq_or_of_lt (i := 8) (b := b) (by omega) a
    rw [Nat.mul_comm a 256]
    exact this.symm
  rw [e]
  omega

/-- The bytes at a place. -/
def cut (bs : List UInt8) (at_ wd : Nat) : List UInt8 := (bs.drop at_).take wd
theorem cut_len (bs : List UInt8) (at_ wd : Nat) (h : at_ + wd ≤ bs.length) : (cut bs at_ wd).length = wd := by simp [cut]; omega
theorem cut_get (bs : List UInt8) (at_ wd j : Nat) (h : at_ + wd ≤ bs.length) (hj : j < wd) : (cut bs at_ wd)[j]'(by rw [cut_len _ _ _ h]; exact hj) = bs[at_ + j]'(by omega) := by
  simp [cut]
theorem bv_get (bs : List UInt8) (j : Nat) (h : j < bs.length) : (bv bs)[j]? = some (.int .u8 (bs[j].toNat : Int)) := by simp [bv, h]

end Go.Proofs.YtbnanjcghhfcpaaDoor
