/- field.right, field.Put, fault.Wrap. -/
import Derived.Test.YtbnanjcghhfcpaaDoorNum
namespace Go.Proofs.YtbnanjcghhfcpaaDoor
open Go.RowKit

/-- n as so many bytes, the lowest first. -/
def lowB (k n : Nat) : List UInt8 := (List.range k).map fun j => UInt8.ofNat (n / 256 ^ j)
theorem lowB_len (k n : Nat) : (lowB k n).length = k := by simp [lowB]
theorem lowB_snoc (k n : Nat) : lowB (k + 1) n = lowB k n ++ [UInt8.ofNat (n / 256 ^ k)] := by simp [lowB, List.range_succ]

def widthB (n : Int) : Bool := decide (n = 1 ∨ n = 2 ∨ n = 4 ∨ n = 8)
theorem fright_any (n : Int) (w : World) : Calls Tryd.prog 66 #[.int .i64 n] w fun e w' => e = .returned (.bool (widthB n)) ∧ w = w' := by
  by_cases h1 : n = 1
  · subst h1
    go_enter Tryd.func66, Tryd.ntmps66
    go_wp2
    go_ret
    exact ⟨rfl, rfl⟩
  by_cases h2 : n = 2
  · subst h2
    go_enter Tryd.func66, Tryd.ntmps66
    go_wp2
    go_ret
    exact ⟨rfl, rfl⟩
  by_cases h4 : n = 4
  · subst h4
    go_enter Tryd.func66, Tryd.ntmps66
    go_wp2
    go_ret
    exact ⟨rfl, rfl⟩
  by_cases h8 : n = 8
  · subst h8
    go_enter Tryd.func66, Tryd.ntmps66
    go_wp2
    go_ret
    exact ⟨rfl, rfl⟩
  have e1 : (n == 1) = false := by simp [h1]
  have e2 : (n == 2) = false := by simp [h2]
  have e4 : (n == 4) = false := by simp [h4]
  have e8 : (n == 8) = false := by simp [h8]
  go_enter Tryd.func66, Tryd.ntmps66
  go_wp2
  go_ret
  exact ⟨by simp [widthB, h1, h2, h4, h8], rfl⟩

theorem wrap_nil (s : ByteArray) (w : World) : Calls Tryd.prog 31 #[.string s, .nilIface] w fun e w' => e = .returned .nilIface ∧ w = w' := by
  go_enter Tryd.func31, Tryd.ntmps31
  go_wp2
  go_ret
  exact ⟨rfl, rfl⟩
theorem wrap_some (s : ByteArray) (t : TypeId) (v : Value) (w : World) : Calls Tryd.prog 31 #[.string s, .iface t v] w fun e w' => e = .returned (.iface 82 (.pointer (some ⟨w.heap.size, 0, none⟩))) ∧ w.alloc (.cells #[.string s, .int .i64 (-1), .iface t v] 84) = w' := by
  go_enter Tryd.func31, Tryd.ntmps31
  go_wp2
  go_ret
  exact ⟨rfl, rfl⟩

theorem Tryd.infoU8 : (Tryd.prog.info? 5).map (fun i => (i.zero, i.size, i.bytes)) = some (some (.int .u8 0), 1, 1) := by kernel_rfl

set_option maxHeartbeats 1000000 in
set_option maxRecDepth 100000 in
/-- field.Put where the number fits: the bytes of b, then n's, in new memory. -/
theorem fput_yes (A : Option Addr) (c : Nat) (bs : List UInt8) (n wd : Nat) (w : World) (hr : Reads w w.heap.size 1 A bs.length (bv bs)) (hl : bs.length ≤ 140737488351232) (hn : n < 18446744073709551616)
    (hw : wd = 1 ∨ wd = 2 ∨ wd = 4 ∨ wd = 8) (hf : n < 256 ^ wd) :
    Calls Tryd.prog 50 #[.slice A bs.length c, .int .u64 n, .int .i64 wd] w fun e w' => ∃ v, e = .returned (.tuple #[v, .nilIface]) ∧ w'.ownsRow w.heap.size 5 1 v (bs.length + wd) (bv (bs ++ lowB wd n)) ∧ Below w.heap.size w w' := by
  obtain ⟨i0, hi0, hz0, hz1, hz2⟩ := info_parts Tryd.infoU8
  have b1 : widthB wd = true := by simp [widthB]; omega
  have hx : ((n : Int) / 2 ^ (8 * wd) == 0) = true := by
    rw [two_pow8, beq_iff_eq]
    exact_mod_cast Nat.div_eq_of_lt hf
  have hx' : ((n : Int) / 2 ^ (8 * wd) != 0) = false := by simp only [bne, hx]; rfl
  have HF := Lib.hid hf
  clear hf
  have hw' : wd < 8 ∨ 8 ≤ wd := by omega
  have HR := Lib.hid hr
  clear hr
  have hwd : wd ≤ 8 := by omega
  have HW := Lib.hid hw
  clear hw
  have fin : ∀ W, W = w → Calls Tryd.prog 50 #[.slice A bs.length c, .int .u64 n, .int .i64 wd] W fun e w' => ∃ v, e = .returned (.tuple #[v, .nilIface]) ∧ w'.ownsRow w.heap.size 5 1 v (bs.length + wd) (bv (bs ++ lowB wd n)) ∧ Below w.heap.size w w' := by
    rintro W rfl
    rcases hw' with h8 | h8
    all_goals
      go_enter Tryd.func50, Tryd.ntmps50
      go_wp2_with (first
        | (go_at_call 66; refine (fright_any _ _).mono ?_; rintro e w' ⟨rfl, rfl⟩)
        | (at_builtin; refine wpList_append_reads _ rfl (.tmp 25) (.tmp 26) _ rfl W.heap.size 5 i0 _ 1 1 Tryd.underlying62 hi0 hz0 hz1 hz2 rfl (by decide) (.slice (some ⟨W.heap.size, 0, none⟩) 0 0) 0 [] rfl (World.ownsRow_made W #[] 0 (Nat.le_refl _) (by decide) rfl) W.heap.size A bs.length c (bv bs) rfl (HR.out.alloc (Nat.le_refl _) _) (bv_one bs) (by unfold maxLen; omega) (by omega) (by simp) ?_; intro v1 w1 hown1 hg1 hat1))
      have hB1 : Below W.heap.size W w1 := ((Below.refl _ _).alloc (Nat.le_refl _) _).grown hg1 (by simp) (by simp [Value.ownBlock])
      have HO := Lib.hid hown1
      have HB1 := Lib.hid hB1
      clear hown1 hB1 hg1 hat1
      go_loopw [8, 1, 29] (fun v8 v1 v29 wr => ∃ k m : Nat, k ≤ wd ∧ v29 = .int .i64 k ∧ v1 = .int .u64 m ∧ m = n / 256 ^ k ∧ wr.ownsRow W.heap.size 5 1 v8 (bs.length + k) (bv (bs ++ lowB k n)) ∧ Below W.heap.size W wr) (fun _ _ i _ => wd - (intOf i).toNat)
      case atStart => exact ⟨0, n, by omega, rfl, rfl, by simp, by simpa [lowB] using HO.out, HB1.out⟩
      case round =>
        obtain ⟨k, m, hk, rfl, rfl, hm, hO, hB⟩ := hrel
        by_cases hlt : k < wd
        · have HM := Lib.hid hm
          have HO2 := Lib.hid hO
          have HB := Lib.hid hB
          have hm2 : m < 18446744073709551616 := by rw [hm]; exact Nat.lt_of_le_of_lt (Nat.div_le_self _ _) hn
          clear hm hO hB
          go_wp2_with (at_builtin; refine wpList_append_reads _ rfl (.tmp 31) (.tmp 34) _ rfl W.heap.size 5 i0 _ 1 1 Tryd.underlying62 hi0 hz0 hz1 hz2 rfl (by decide) u8 (bs.length + k) (bv (bs ++ lowB k n)) rfl (HO2.out.alloc _) (wr.heap.size + 1) (some ⟨wr.heap.size, 0, none⟩) 1 1 [.int .u8 ((m : Int) % 256)] rfl (Reads.boxed wr 5 #[.int .u8 ((m : Int) % 256)] 1 1 rfl) (by simp [Value.oneCell']) (by unfold maxLen; omega) (by omega) (by have := HB.out.size; simp; omega) ?_; intro v2 w2 hown2 hg2 hat2)
          have hB2 := Lib.hid (below_append HB.out HB.out.size hg2 HO2.out)
          have HO3 := Lib.hid hown2
          clear hown2 hg2 hat2
          go_wp2
          go_roundw
          case rel =>
            refine ⟨k + 1, m / 256, by omega, by go_num, by go_num, ?_, ?_, hB2.out⟩
            · rw [HM.out, Nat.div_div_eq_div_mul, Nat.pow_succ]
            · rw [← Nat.add_assoc, lowB_snoc, ← List.append_assoc, bv_append]
              have e : bv [UInt8.ofNat (n / 256 ^ k)] = [.int .u8 ((m : Int) % 256)] := by
                rw [HM.out]
                simp [bv]
              rw [e]
              exact HO3.out
          case measure => simp [intOf]; omega
        · obtain rfl : k = wd := by omega
          go_wp2
          go_ret2
          exact ⟨_, rfl, hO, hB⟩
  exact fin w rfl

/-- The same, the length a number of its own. -/
theorem fput_len (A : Option Addr) (l c : Nat) (bs : List UInt8) (n wd : Nat) (w : World) (hbs : bs.length = l) (hr : Reads w w.heap.size 1 A l (bv bs)) (hl : l ≤ 140737488351232) (hn : n < 18446744073709551616)
    (hw : wd = 1 ∨ wd = 2 ∨ wd = 4 ∨ wd = 8) (hf : n < 256 ^ wd) (k : Int) (hk : k = wd) :
    Calls Tryd.prog 50 #[.slice A l c, .int .u64 n, .int .i64 k] w fun e w' => ∃ v, e = .returned (.tuple #[v, .nilIface]) ∧ w'.ownsRow w.heap.size 5 1 v (l + wd) (bv (bs ++ lowB wd n)) ∧ Below w.heap.size w w' := by
  subst hbs hk
  exact fput_yes A c bs n wd w hr hl hn hw hf
end Go.Proofs.YtbnanjcghhfcpaaDoor
