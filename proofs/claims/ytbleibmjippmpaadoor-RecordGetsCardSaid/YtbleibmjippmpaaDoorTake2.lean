/- The document's Right, Take, Fits, Put. -/
import Derived.Test.YtbleibmjippmpaaDoorTake
namespace Go.Proofs.YtbleibmjippmpaaDoor
open Go.RowKit

theorem rright_any (n : Int) (w : World) : Calls Tryd.prog 117 #[.int .i64 n] w fun e w' => e = .returned (.bool (widthB n)) ∧ w = w' := by
  by_cases h1 : n = 1
  · subst h1
    go_enter Tryd.func117, Tryd.ntmps117
    go_wp2
    go_ret
    exact ⟨rfl, rfl⟩
  by_cases h2 : n = 2
  · subst h2
    go_enter Tryd.func117, Tryd.ntmps117
    go_wp2
    go_ret
    exact ⟨rfl, rfl⟩
  by_cases h4 : n = 4
  · subst h4
    go_enter Tryd.func117, Tryd.ntmps117
    go_wp2
    go_ret
    exact ⟨rfl, rfl⟩
  have e1 : (n == 1) = false := by simp [h1]
  have e2 : (n == 2) = false := by simp [h2]
  have e4 : (n == 4) = false := by simp [h4]
  go_enter Tryd.func117, Tryd.ntmps117
  go_wp2
  go_ret
  refine ⟨?_, rfl⟩
  simp [widthB, h1, h2, h4]
  rfl

theorem valLE_take (x : List UInt8) (k : Nat) (h : k < x.length) : valLE (x.take (k + 1)) = valLE (x.take k) + x[k].toNat * 256 ^ k := by
  rw [List.take_succ_eq_append_getElem h, valLE_snoc, List.length_take, Nat.min_eq_left (by omega)]

set_option maxHeartbeats 1000000 in
set_option maxRecDepth 100000 in
theorem rtake_yes (A : Option Addr) (n c : Nat) (bs : List UInt8) (at_ wd : Nat) (w : World) (hn : bs.length = n) (hr : Reads w w.heap.size 1 A n (bv bs)) (hl : n ≤ 140737488351232)
    (hw : wd = 1 ∨ wd = 2 ∨ wd = 4 ∨ wd = 8) (hf : at_ + wd ≤ n) (ka kw : Int) (hka : ka = at_) (hkw : kw = wd) :
    Calls Tryd.prog 69 #[.slice A n c, .int .i64 ka, .int .i64 kw] w fun e w' => e = .returned (.tuple #[.int .u64 (valLE (cut bs at_ wd)), .int .i64 0]) ∧ w = w' := by
  subst hka hkw
  have b1 : widthB wd = true := by simp [widthB]; omega
  have hwd : wd ≤ 8 := by omega
  have hw0 : 1 ≤ wd := by omega
  have hN := Lib.hid hn
  obtain ⟨b, off, rfl, _, hcell⟩ := hr.2 (by omega)
  have HC := Lib.hid hcell
  clear hn hr hcell hw
  have hcl : Hid ((cut bs at_ wd).length = wd) := Lib.hid (cut_len _ _ _ (by rw [hN.out]; exact hf))
  go_enter Tryd.func69, Tryd.ntmps69
  go_wp2_with (go_at_call 117; refine (rright_any _ _).mono ?_; rintro e w' ⟨rfl, rfl⟩)
  go_loop [8, 9, 10] (fun v8 v9 v10 => ∃ (k m : Nat) (s : Int), k ≤ wd ∧ v10 = .int .i64 k ∧ v8 = .int .u64 m ∧ v9 = .int .u64 s ∧ (k < 8 → s = ((256 ^ k : Nat) : Int)) ∧ m = valLE ((cut bs at_ wd).take k)) (fun _ _ i => wd - (intOf i).toNat)
  case atStart => exact ⟨0, 0, 1, by omega, rfl, rfl, rfl, fun _ => rfl, rfl⟩
  case round =>
    obtain ⟨k, m, s, hk, rfl, rfl, rfl, hs, hm⟩ := hrel
    by_cases hlt : k < wd
    · have hj : at_ + k < bs.length := by rw [hN.out]; omega
      have hc := HC.out (at_ + k) _ (bv_get bs _ hj)
      have hS := hs (by omega)
      have hv := valLE_take (cut bs at_ wd) k (by rw [hcl.out]; exact hlt)
      rw [cut_get bs at_ wd k (by rw [hN.out]; exact hf) hlt] at hv
      have hlt64 : valLE ((cut bs at_ wd).take (k + 1)) < 18446744073709551616 := by
        have h1 := valLE_lt ((cut bs at_ wd).take (k + 1))
        have h2 : ((cut bs at_ wd).take (k + 1)).length ≤ 8 := by rw [List.length_take, hcl.out]; omega
        have h3 : 256 ^ ((cut bs at_ wd).take (k + 1)).length ≤ 256 ^ 8 := Nat.pow_le_pow_right (by decide) h2
        omega
      have hx := bs[at_ + k].toNat_lt
      rw [← hm] at hv
      have hp : ∃ y : Nat, bs[at_ + k].toNat * 256 ^ k = y := ⟨_, rfl⟩
      obtain ⟨y, hy⟩ := hp
      have ey : (bs[at_ + k].toNat : Int) * s = (y : Int) := by rw [hS, ← hy]; simp
      rw [hy] at hv
      have by_ : m + y < 18446744073709551616 := by omega
      have HV := Lib.hid hv
      have hs8 : Hid (k + 1 < 8 → IntKind.u64.wrap (s * 256) = ((256 ^ (k + 1) : Nat) : Int)) := Lib.hid (fun h => by
        rw [hS, IntKind.wrap_u64]
        have h3 : 256 ^ (k + 1) ≤ 256 ^ 7 := Nat.pow_le_pow_right (by decide) (by omega)
        rw [Nat.pow_succ] at h3 ⊢
        omega)
      generalize bs[at_ + k].toNat = x at *
      clear hv hm hs hS hy hlt64
      go_wp2_with fail
      go_round
      case rel => exact ⟨k + 1, m + y, _, by omega, by go_num, by go_num, rfl, hs8.out, HV.out.symm⟩
      case measure => simp [intOf]; omega
    · obtain rfl : k = wd := by omega
      have HM := Lib.hid hm
      clear hm hs
      go_wp2_with fail
      go_ret2
      refine ⟨?_, rfl⟩
      rw [HM.out, List.take_of_length_le (by rw [hcl.out]; exact Nat.le_refl _)]
      rfl

set_option maxHeartbeats 400000 in
theorem fits_yes (n wd : Nat) (hn : n < 18446744073709551616) (hw : wd ≤ 8) (hf : n < 256 ^ wd) (kw : Int) (hkw : kw = wd) (w : World) :
    Calls Tryd.prog 118 #[.int .u64 n, .int .i64 kw] w fun e w' => e = .returned (.bool true) ∧ w = w' := by
  subst hkw
  have HF := Lib.hid hf
  clear hf
  go_enter Tryd.func118, Tryd.ntmps118
  go_wp2_with fail
  go_loop [0, 5] (fun v0 v5 => ∃ k m : Nat, k ≤ wd ∧ v5 = .int .i64 k ∧ v0 = .int .u64 m ∧ m < 18446744073709551616 ∧ m = n / 256 ^ k) (fun _ i => wd - (intOf i).toNat)
  case atStart => exact ⟨0, n, by omega, rfl, rfl, hn, by simp⟩
  case round =>
    obtain ⟨k, m, hk, rfl, rfl, hm64, hm⟩ := hrel
    have HM := Lib.hid hm
    clear hm
    by_cases hlt : k < wd
    · have h8 : (k : Int) < 8 := by omega
      go_wp2_with fail
      go_round
      case rel =>
        refine ⟨k + 1, m / 256, by omega, by go_num, by go_num, ?_, ?_⟩
        · have := Nat.div_le_self m 256
          omega
        · rw [HM.out, Nat.div_div_eq_div_mul, Nat.pow_succ]
      case measure => simp [intOf]; omega
    · obtain rfl : k = wd := by omega
      have hz : m = 0 := by rw [HM.out]; exact Nat.div_eq_of_lt HF.out
      subst hz
      go_wp2_with fail
      go_ret
      exact ⟨rfl, rfl⟩

set_option maxHeartbeats 1000000 in
set_option maxRecDepth 100000 in
theorem rput_len (A : Option Addr) (l c : Nat) (bs : List UInt8) (n wd : Nat) (w : World) (hbs : bs.length = l) (hr : Reads w w.heap.size 1 A l (bv bs)) (hl : l ≤ 140737488351232) (hn : n < 18446744073709551616)
    (hw : wd = 1 ∨ wd = 2 ∨ wd = 4 ∨ wd = 8) (hf : n < 256 ^ wd) (kn kw : Int) (hkn : kn = n) (hkw : kw = wd) :
    Calls Tryd.prog 68 #[.slice A l c, .int .u64 kn, .int .i64 kw] w fun e w' => ∃ v, e = .returned (.tuple #[v, .int .i64 0]) ∧ w'.ownsRow w.heap.size 5 1 v (l + wd) (bv (bs ++ lowB wd n)) ∧ Below w.heap.size w w' := by
  subst hkn hkw
  obtain ⟨i0, hi0, hz0, hz1, hz2⟩ := info_parts Tryd.infoU8
  have b1 : widthB wd = true := by simp [widthB]; omega
  have hwd : wd ≤ 8 := by omega
  have HR := Lib.hid hr
  have HF := Lib.hid hf
  have HL := Lib.hid hbs
  clear hr hw hf hbs
  go_enter Tryd.func68, Tryd.ntmps68
  go_wp2_with (first
    | (go_at_call 117; refine (rright_any _ _).mono ?_; rintro e w' ⟨rfl, rfl⟩)
    | (go_at_call 118; refine (fits_yes n wd hn hwd HF.out _ rfl _).mono ?_; rintro e w' ⟨rfl, rfl⟩)
    | (at_builtin; refine wpList_append_reads _ rfl (.tmp 19) (.tmp 20) _ rfl w.heap.size 5 i0 _ 1 1 Tryd.underlying24 hi0 hz0 hz1 hz2 rfl (by decide) (.slice (some ⟨w.heap.size, 0, none⟩) 0 0) 0 [] rfl (World.ownsRow_made w #[] 0 (Nat.le_refl _) (by decide) rfl) w.heap.size A l c (bv bs) rfl (HR.out.alloc (Nat.le_refl _) _) (bv_one bs) (by unfold maxLen; omega) (by omega) (by simp) ?_; intro v1 w1 hown1 hg1 hat1))
  have hB1 : Below w.heap.size w w1 := ((Below.refl _ _).alloc (Nat.le_refl _) _).grown hg1 (by simp) (by simp [Value.ownBlock])
  have HO := Lib.hid hown1
  have HB1 := Lib.hid hB1
  clear hown1 hB1 hg1 hat1
  go_loopw [8, 1, 9] (fun v8 v1 v9 wr => ∃ k m : Nat, k ≤ wd ∧ v9 = .int .i64 k ∧ v1 = .int .u64 m ∧ m = n / 256 ^ k ∧ wr.ownsRow w.heap.size 5 1 v8 (l + k) (bv (bs ++ lowB k n)) ∧ Below w.heap.size w wr) (fun _ _ i _ => wd - (intOf i).toNat)
  case atStart => exact ⟨0, n, by omega, rfl, rfl, by simp, by simpa [lowB] using HO.out, HB1.out⟩
  case round =>
    obtain ⟨k, m, hk, rfl, rfl, hm, hO, hB⟩ := hrel
    by_cases hlt : k < wd
    · have HM := Lib.hid hm
      have HO2 := Lib.hid hO
      have HB := Lib.hid hB
      have hm2 : m < 18446744073709551616 := by rw [hm]; exact Nat.lt_of_le_of_lt (Nat.div_le_self _ _) hn
      clear hm hO hB
      go_wp2_with (at_builtin; refine wpList_append_reads _ rfl (.tmp 27) (.tmp 31) _ rfl w.heap.size 5 i0 _ 1 1 Tryd.underlying24 hi0 hz0 hz1 hz2 rfl (by decide) u8 (l + k) (bv (bs ++ lowB k n)) rfl (HO2.out.alloc _) (wr.heap.size + 1) (some ⟨wr.heap.size, 0, none⟩) 1 1 [.int .u8 ((m : Int) % 256)] rfl (Reads.boxed wr 5 #[.int .u8 ((m : Int) % 256)] 1 1 rfl) (by simp [Value.oneCell']) (by unfold maxLen; omega) (by omega) (by have := HB.out.size; simp; omega) ?_; intro v2 w2 hown2 hg2 hat2)
      have hB2 := Lib.hid (below_append HB.out HB.out.size hg2 HO2.out)
      have HO3 := Lib.hid hown2
      clear hown2 hg2 hat2
      go_wp2
      go_roundw
      case rel =>
        refine ⟨k + 1, m / 256, by omega, by go_num, by go_num, ?_, ?_, hB2.out⟩
        · rw [HM.out, Nat.div_div_eq_div_mul, Nat.pow_succ]
        · rw [← Nat.add_assoc, lowB_snoc, ← List.append_assoc, bv_append]
          have e : bv [UInt8.ofNat (n / 256 ^ k)] = [.int .u8 ((m : Int) % 256)] := by
            rw [HM.out]
            simp [bv]
          rw [e]
          exact HO3.out
      case measure => simp [intOf]; omega
    · obtain rfl : k = wd := by omega
      go_wp2
      go_ret2
      exact ⟨_, rfl, hO, hB⟩

set_option maxHeartbeats 1000000 in
set_option maxRecDepth 100000 in
theorem sameBytes_yes (A A' : Option Addr) (n c c' : Nat) (bs : List UInt8) (w : World) (hn : bs.length = n) (hl : n ≤ 140737488351232) (hr : Reads w w.heap.size 1 A n (bv bs)) (hr' : Reads w w.heap.size 1 A' n (bv bs)) :
    Calls Tryd.prog 19 #[.slice A n c, .slice A' n c'] w fun e w' => e = .returned (.bool true) ∧ ∃ k, w' = w.drewN k := by
  have hN := Lib.hid hn
  have HR := Lib.hid hr
  have HR' := Lib.hid hr'
  clear hn hr hr'
  go_enter Tryd.func19, Tryd.ntmps19
  go_wp2_with fail
  go_loopw [5] (fun i wr => ∃ k j : Nat, k ≤ n ∧ i = .int .i64 k ∧ wr = w.drewN j) (fun i _ => n - (intOf i).toNat)
  case atStart => exact ⟨0, 0, by omega, rfl, rfl⟩
  case round =>
    obtain ⟨k, j, hk, rfl, rfl⟩ := hrel
    by_cases hlt : k < n
    · obtain ⟨b, off, u, rfl, _, hu, hc⟩ := HR.out.at_ hlt
      obtain ⟨b', off', u', rfl, _, hu', hc'⟩ := HR'.out.at_ hlt
      have hkb : k < bs.length := by rw [hN.out]; exact hlt
      have eu := bv_get bs k hkb
      rw [eu] at hu hu'
      cases hu
      cases hu'
      have g1 : (0 : Int) ≤ (k : Int) := by omega
      have g2 : (k : Int) < (n : Int) := by omega
      generalize bs[k].toNat = x at *
      clear eu hkb
      go_wp2_with fail
      go_quiet (fail)
      go_wp2_with fail
      go_roundw
      case rel => exact ⟨k + 1, _, by omega, by go_num, rfl⟩
      case measure => simp [intOf]; omega
    · go_wp2_with fail
      go_ret
      exact ⟨rfl, j, rfl⟩
end Go.Proofs.YtbleibmjippmpaaDoor
