/- Contracts of the small functions on numbers and of errors that are made. -/
import Derived.Test.YtbnanjcghhfcpaaDoorProg
import Derived.Test.YtbnanjcghhfcpaaDoorKit
namespace Go.Proofs.YtbnanjcghhfcpaaDoor
open Go.RowKit

def clockB (n : Int) : Bool := decide (0 ≤ n ∧ n ≤ 1099511627776)
def numberB (n : Int) : Bool := decide (1 ≤ n ∧ n ≤ 2147483647)

theorem clock_any (n : Int) (w : World) : Calls Tryd.prog 47 #[.int .i64 n] w fun e w' => e = .returned (.bool (clockB n)) ∧ w = w' := by
  by_cases h : 0 ≤ n
  · go_enter Tryd.func47, Tryd.ntmps47
    go_wp2
    go_ret
    exact ⟨by simp [clockB, h], rfl⟩
  · go_enter Tryd.func47, Tryd.ntmps47
    go_wp2
    go_ret
    exact ⟨by simp [clockB]; omega, rfl⟩

theorem number_any (n : Int) (w : World) : Calls Tryd.prog 29 #[.int .i64 n] w fun e w' => e = .returned (.bool (numberB n)) ∧ w = w' := by
  by_cases h : 1 ≤ n
  · go_enter Tryd.func29, Tryd.ntmps29
    go_wp2
    go_ret
    exact ⟨by simp [numberB, h], rfl⟩
  · go_enter Tryd.func29, Tryd.ntmps29
    go_wp2
    go_ret
    exact ⟨by simp [numberB]; omega, rfl⟩

/-- fault.New: a new Fault, whose cells are the operation, -1 and the kind. -/
theorem new_any (s : ByteArray) (t : TypeId) (v : Value) (w : World) : Calls Tryd.prog 21 #[.string s, .iface t v] w fun e w' => e = .returned (.iface 82 (.pointer (some ⟨w.heap.size, 0, none⟩))) ∧ w.alloc (.cells #[.string s, .int .i64 (-1), .iface t v] 84) = w' := by
  go_enter Tryd.func21, Tryd.ntmps21
  go_wp2
  go_ret
  exact ⟨rfl, rfl⟩

/-- n as so many bytes, the highest first. -/
def bigB (k n : Nat) : List UInt8 := (List.range k).map fun j => UInt8.ofNat (n / 256 ^ (k - 1 - j))
theorem bigB_len (k n : Nat) : (bigB k n).length = k := by simp [bigB]

/-- The cells of Order's bytes behind k rounds. -/
def ordAt (n k : Nat) : List Int := (List.range 8).map fun j => if 8 ≤ j + k then ((n / 256 ^ (7 - j) % 256 : Nat) : Int) else 0
theorem ordAt_len (n k : Nat) : (ordAt n k).length = 8 := by simp [ordAt]
theorem ordAt_get (n k j : Nat) (hj : j < 8) : (ordAt n k)[j]? = some (if 8 ≤ j + k then ((n / 256 ^ (7 - j) % 256 : Nat) : Int) else 0) := by
  simp [ordAt, List.getElem?_map, List.getElem?_range hj]
theorem two_pow8 (k : Nat) : (2 : Int) ^ (8 * k) = ((256 ^ k : Nat) : Int) := by
  rw [show (256 : Nat) = 2 ^ 8 from rfl, ← Nat.pow_mul]
  simp
theorem ordAt_put (n k : Nat) (hk : k < 8) :
    ((ordAt n k).map (Value.int .u8)).toArray.setIfInBounds (7 - k) (.int .u8 ((n : Int) / 2 ^ (8 * k) % 256)) = ((ordAt n (k + 1)).map (Value.int .u8)).toArray := by
  rw [two_pow8]
  apply Array.ext
  · simp [ordAt_len]
  · intro j h1 h2
    have hj : j < 8 := by simpa [ordAt_len] using h2
    have g : ∀ k, (List.map (Value.int .u8) (ordAt n k))[j]? = some (.int .u8 (if 8 ≤ j + k then ((n / 256 ^ (7 - j) % 256 : Nat) : Int) else 0)) := fun k => by rw [List.getElem?_map, ordAt_get n k j hj]; rfl
    apply Option.some.inj
    rw [← Array.getElem?_eq_getElem h1, ← Array.getElem?_eq_getElem h2, Array.getElem?_setIfInBounds]
    simp only [List.getElem?_toArray, List.size_toArray, List.length_map, ordAt_len, g]
    by_cases h : 7 - k = j
    · subst h
      rw [if_pos rfl, if_pos (by omega), if_pos (by omega), show 7 - (7 - k) = k by omega]
      simp
    · rw [if_neg h]
      by_cases h' : 8 ≤ j + k
      · rw [if_pos h', if_pos (by omega)]
      · rw [if_neg h', if_neg (by omega)]

theorem ord_str (n : Nat) : strOfNums (ordAt n 8) = ⟨(bigB 8 n).toArray⟩ := by
  unfold strOfNums ordAt bigB
  congr 2
  rw [List.map_map]
  apply List.map_congr_left
  intro j hj
  have : j < 8 := by simpa using hj
  simp only [Function.comp, if_pos (show 8 ≤ j + 8 by omega), Int.toNat_natCast]
  rw [show 8 - 1 - j = 7 - j by omega]
  apply UInt8.toNat_inj.1
  simp

set_option maxHeartbeats 400000 in
theorem order_any (n : Nat) (_hn : n < 18446744073709551616) (w : World) : Calls Tryd.prog 65 #[.int .u64 n] w fun e w' => e = .returned (.string ⟨(bigB 8 n).toArray⟩) ∧ Below w.heap.size w w' := by
  have hmk : ∀ w, (Instr.makeSlice 62 (.int .i64 8) (.int .i64 8)).run Tryd.prog w = .ok (.slice (some ⟨w.heap.size, 0, none⟩) 8 8) (w.alloc (.cells #[.int .u8 0, .int .u8 0, .int .u8 0, .int .u8 0, .int .u8 0, .int .u8 0, .int .u8 0, .int .u8 0] 5)) := fun _ => by kernel_rfl
  go_enter Tryd.func65, Tryd.ntmps65
  go_wp2
  go_loopw [8] (fun i wr => ∃ k : Nat, k ≤ 8 ∧ i = .int .i64 k ∧ Whole wr w.heap.size 5 ((ordAt n k).map (Value.int .u8)).toArray ∧ Below w.heap.size w wr) (fun i _ => 8 - (intOf i).toNat)
  case atStart => exact ⟨0, by omega, rfl, Whole.new _ _ _, (Below.refl _ _).alloc (Nat.le_refl _) _⟩
  case round =>
    obtain ⟨k, hk, rfl, hW, hB⟩ := hrel
    by_cases hlt : k < 8
    · have hfz := hW.frozen (7 - k)
      have hc : ∃ v, wr.cell? ⟨w.heap.size, 7 - k, none⟩ = some v := by
        rw [hW.cell]
        simp [ordAt_get n k (7 - k) (by omega)]
      obtain ⟨v, hc⟩ := hc
      have HW := Lib.hid hW
      have HB := Lib.hid hB
      clear hW hB
      go_wp2
      go_roundw
      case rel => exact ⟨k + 1, by omega, by go_num, by rw [← ordAt_put n k hlt]; exact HW.out.put _ _, HB.out.setCell (Nat.le_refl _) _⟩
      case measure => simp [intOf]; omega
    · obtain rfl : k = 8 := by omega
      have hcv := run_convert_bytes_arg (P := Tryd.prog) wr 62 5 Tryd.underlying62 Tryd.underlying5 w.heap.size 0 8 8 (ordAt n 8) (ordAt_len n 8) (fun i hi => by
        rw [Nat.zero_add, hW.cell]
        simp [ordAt_get n 8 i hi, List.getD]) 9 Tryd.underlying9
      have HW := Lib.hid hW
      have HB := Lib.hid hB
      clear hW hB
      rw [ord_str] at hcv
      go_wp2
      go_ret
      exact ⟨rfl, HB.out⟩
end Go.Proofs.YtbnanjcghhfcpaaDoor
