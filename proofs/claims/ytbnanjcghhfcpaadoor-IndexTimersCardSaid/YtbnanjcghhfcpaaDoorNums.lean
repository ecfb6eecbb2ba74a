/- Numbers of bytes; the document's big, number, clock of layer 35. -/
import Derived.Test.YtbnanjcghhfcpaaDoorNum
import Derived.Laws.BitsAllLaws
import Derived.Laws.BitsLemmas
namespace Go.Proofs.YtbnanjcghhfcpaaDoor
open Go.RowKit

/-- The number of bytes, the highest first. -/
def valB (l : List UInt8) : Nat := l.foldl (fun n c => n * 256 + c.toNat) 0
theorem valB_snoc (l : List UInt8) (c : UInt8) : valB (l ++ [c]) = valB l * 256 + c.toNat := by simp [valB]
theorem valB_take (l : List UInt8) (k : Nat) (h : k < l.length) : valB (l.take (k + 1)) = valB (l.take k) * 256 + l[k].toNat := by
  rw [List.take_succ_eq_append_getElem h, valB_snoc]
theorem valB_lt_take (l : List UInt8) : ∀ k, k ≤ l.length → valB (l.take k) < 256 ^ k
  | 0, _ => by simp [valB]
  | k + 1, h => by
    have ih := valB_lt_take l k (by omega)
    rw [valB_take l k (by omega), Nat.pow_succ]
    have := l[k].toNat_lt
    omega
theorem valB_lt (l : List UInt8) : valB l < 256 ^ l.length := by
  have := valB_lt_take l l.length (Nat.le_refl _)
  rwa [List.take_length] at this

theorem or_add (a b : Nat) (ha : a < 36028797018963968) (hb : b < 256) : bits .or .i64 ((a : Int) * 256) (b : Int) = (a : Int) * 256 + b := by
  rw [show (a : Int) * 256 = ((a * 256 : Nat) : Int) by omega]
  have h0 : ∀ x : Nat, x < 9223372036854775808 → (BitVec.ofInt 64 (x : Int)).toNat = x := fun x hx => by
    rw [BitVec.ofInt_natCast, BitVec.toNat_ofNat]
    exact Nat.mod_eq_of_lt (by omega)
  show IntKind.i64.wrap ((BitVec.ofInt 64 ((a * 256 : Nat) : Int) ||| BitVec.ofInt 64 (b : Int)).toNat : Int) = _
  rw [BitVec.toNat_or, h0 _ (by omega), h0 _ (by omega), IntKind.wrap_i64]
  have e : a * 256 ||| b = a * 256 + b := by
    have := Nat.two_pow_add_eq_or_of_lt (i := 8) (b := b) (by omega) a
    rw [Nat.mul_comm a 256]
    exact this.symm
  rw [e]
  omega

theorem rnumber_any (n : Int) (w : World) : Calls Tryd.prog 59 #[.int .i64 n] w fun e w' => e = .returned (.bool (numberB n)) ∧ w = w' := by
  by_cases h : 0 < n
  all_goals
    go_enter Tryd.func59, Tryd.ntmps59
    go_wp2
    go_ret
    exact ⟨by simp [numberB]; try omega, rfl⟩
theorem rclock_any (n : Int) (w : World) : Calls Tryd.prog 58 #[.int .i64 n] w fun e w' => e = .returned (.bool (clockB n)) ∧ w = w' := by
  by_cases h : 0 ≤ n
  all_goals
    go_enter Tryd.func58, Tryd.ntmps58
    go_wp2
    go_ret
    exact ⟨by simp [clockB]; try omega, rfl⟩

theorem bigB_div (k n : Nat) : bigB (k + 1) n = bigB k (n / 256) ++ [UInt8.ofNat n] := by
  simp only [bigB, List.range_succ, List.map_append, List.map_cons, List.map_nil]
  congr 1
  · apply List.map_congr_left
    intro j hj
    have : j < k := by simpa using hj
    rw [Nat.div_div_eq_div_mul, ← Nat.pow_succ']
    rw [show k + 1 - 1 - j = k - 1 - j + 1 by omega]
  · simp

/-- string([]byte{byte(m)}), as the walk spells it. -/
theorem one_byte {P : Program} {ts e td : TypeId} (hs : P.underlying ts = some (.slice e)) (he : P.underlying e = some (.int .u8)) (hd : P.underlying td = some .string) (w : World) (m : Nat) :
    (convert ts td (.slice (some ⟨w.heap.size, 0, none⟩) 1 1)).run P (w.alloc (.cells #[.int .u8 ((m : Int) % 256)] e)) = .ok (.string ⟨[UInt8.ofNat m].toArray⟩) (w.alloc (.cells #[.int .u8 ((m : Int) % 256)] e)) := by
  have := run_convert_bytes_arg (P := P) (w.alloc (.cells #[.int .u8 ((m : Int) % 256)] e)) ts e hs he w.heap.size 0 1 1 [(m : Int) % 256] rfl (fun i hi => by
    obtain rfl : i = 0 := by omega
    exact (Whole.new w e #[.int .u8 ((m : Int) % 256)]).cell 0) td hd
  rw [this]
  congr 3
  simp only [strOfNums, List.map_cons, List.map_nil]
  congr 3
  apply UInt8.toNat_inj.1
  simp only [UInt8.toNat_ofNat']
  omega

set_option maxRecDepth 100000 in
set_option maxHeartbeats 400000 in
theorem big_any (n wd : Nat) (hn : n < 9223372036854775808) (hw : wd ≤ 8) (w : World) :
    Calls Tryd.prog 60 #[.int .i64 n, .int .i64 wd] w fun e w' => e = .returned (.string ⟨(bigB wd n).toArray⟩) ∧ Below w.heap.size w w' := by
  go_enter Tryd.func60, Tryd.ntmps60
  go_wp2_with fail
  go_loopw [0, 5, 6] (fun v0 v5 i wr => ∃ (k m : Nat) (s : List UInt8), k ≤ wd ∧ i = .int .i64 k ∧ v0 = .int .i64 m ∧ v5 = .string ⟨s.toArray⟩ ∧ s.length ≤ 8 ∧ m ≤ n ∧ bigB wd n = bigB (wd - k) m ++ s ∧ Below w.heap.size w wr) (fun _ _ i _ => wd - (intOf i).toNat)
  case atStart => exact ⟨0, n, [], by omega, rfl, rfl, rfl, by simp, Nat.le_refl _, by simp, Below.refl _ _⟩
  case round =>
    obtain ⟨k, m, s, hk, rfl, rfl, rfl, hs, hm, he, hB⟩ := hrel
    have HE := Lib.hid he
    have HB := Lib.hid hB
    clear he hB
    by_cases hlt : k < wd
    · have hcat := fun W => run_cat (P := Tryd.prog) [UInt8.ofNat m] s (by simp; omega) W
      have hcv := one_byte Tryd.underlying62 Tryd.underlying5 Tryd.underlying9 wr m
      go_wp2_with fail
      go_roundw
      case rel =>
        refine ⟨k + 1, m / 256, [UInt8.ofNat m] ++ s, by omega, by go_num, by go_num, rfl, ?_, ?_, ?_, HB.out.alloc HB.out.size _⟩
        · have := congrArg List.length HE.out
          rw [List.length_append, bigB_len, bigB_len] at this
          simp
          omega
        · have := Nat.div_le_self m 256
          omega
        · rw [HE.out, show wd - k = wd - (k + 1) + 1 by omega, bigB_div, List.append_assoc]
      case measure => simp [intOf]; omega
    · obtain rfl : k = wd := by omega
      go_wp2_with fail
      go_ret
      refine ⟨?_, HB.out⟩
      rw [HE.out, Nat.sub_self]
      rfl
theorem big_len (n wd : Nat) (hn : n < 9223372036854775808) (hw : wd ≤ 8) (k : Int) (hk : k = wd) (w : World) :
    Calls Tryd.prog 60 #[.int .i64 n, .int .i64 k] w fun e w' => e = .returned (.string ⟨(bigB wd n).toArray⟩) ∧ Below w.heap.size w w' := by
  subst hk
  exact big_any n wd hn hw w
end Go.Proofs.YtbnanjcghhfcpaaDoor
