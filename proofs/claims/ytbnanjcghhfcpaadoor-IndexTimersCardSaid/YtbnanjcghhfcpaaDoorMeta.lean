/- index.right, index.PutMeta, awake of layer 35. -/
import Derived.Test.YtbnanjcghhfcpaaDoorField
import Derived.Test.YtbnanjcghhfcpaaDoorJoin
import Derived.Test.YtbnanjcghhfcpaaDoorErr
namespace Go.Proofs.YtbnanjcghhfcpaaDoor
open Go.RowKit

def metaB (c h i : Int) : Bool := clockB c && decide (0 ≤ h ∧ h ≤ 2147483647 ∧ 0 ≤ i ∧ i ≤ 2147483647)

theorem iright_any (c h i : Int) (w : World) : Calls Tryd.prog 49 #[.agg #[.int .i64 c, .int .i64 h, .int .i64 i]] w fun e w' => e = .returned (.bool (metaB c h i)) ∧ w.alloc (.cells #[.int .i64 c, .int .i64 h, .int .i64 i] 66) = w' := by
  by_cases h1 : clockB c
  · by_cases h2 : 0 ≤ h
    · by_cases h3 : h ≤ 2147483647
      · by_cases h4 : 0 ≤ i
        · go_enter Tryd.func49, Tryd.ntmps49
          go_wp2_with (go_at_call 47; refine (clock_any _ _).mono ?_; rintro e w' ⟨rfl, rfl⟩)
          go_ret
          exact ⟨by simp [metaB, h1, h2, h3, h4], rfl⟩
        · go_enter Tryd.func49, Tryd.ntmps49
          go_wp2_with (go_at_call 47; refine (clock_any _ _).mono ?_; rintro e w' ⟨rfl, rfl⟩)
          go_ret
          exact ⟨by simp [metaB]; omega, rfl⟩
      · go_enter Tryd.func49, Tryd.ntmps49
        go_wp2_with (go_at_call 47; refine (clock_any _ _).mono ?_; rintro e w' ⟨rfl, rfl⟩)
        go_ret
        exact ⟨by simp [metaB]; omega, rfl⟩
    · go_enter Tryd.func49, Tryd.ntmps49
      go_wp2_with (go_at_call 47; refine (clock_any _ _).mono ?_; rintro e w' ⟨rfl, rfl⟩)
      go_ret
      exact ⟨by simp [metaB]; omega, rfl⟩
  · go_enter Tryd.func49, Tryd.ntmps49
    go_wp2_with (go_at_call 47; refine (clock_any _ _).mono ?_; rintro e w' ⟨rfl, rfl⟩)
    go_ret
    exact ⟨by simp [metaB, h1], rfl⟩

def metaBytes (c h i : Nat) : List UInt8 := [77, 49] ++ lowB 8 c ++ lowB 4 h ++ lowB 4 i

set_option maxHeartbeats 1000000 in
set_option maxRecDepth 100000 in
theorem putMeta_yes (c h i : Nat) (w : World) (hc : c ≤ 1099511627776) (hh : h ≤ 2147483647) (hi : i ≤ 2147483647) :
    Calls Tryd.prog 27 #[.agg #[.int .i64 c, .int .i64 h, .int .i64 i]] w fun e w' => ∃ v, e = .returned (.tuple #[v, .nilIface]) ∧ w'.ownsRow w.heap.size 5 1 v 18 (bv (metaBytes c h i)) ∧ Below w.heap.size w w' := by
  have m1 : metaB c h i = true := by simp [metaB, clockB]; omega
  have i0 : ∀ w, (Instr.index 99 (.agg #[.int .i64 c, .int .i64 8, .int .i64 h, .int .i64 4, .int .i64 i, .int .i64 4]) (.int .i64 0)).run Tryd.prog w = .ok (.agg #[.int .i64 c, .int .i64 8]) w := fun _ => by kernel_rfl
  have i1 : ∀ w, (Instr.index 99 (.agg #[.int .i64 c, .int .i64 8, .int .i64 h, .int .i64 4, .int .i64 i, .int .i64 4]) (.int .i64 1)).run Tryd.prog w = .ok (.agg #[.int .i64 h, .int .i64 4]) w := fun _ => by kernel_rfl
  have i2 : ∀ w, (Instr.index 99 (.agg #[.int .i64 c, .int .i64 8, .int .i64 h, .int .i64 4, .int .i64 i, .int .i64 4]) (.int .i64 2)).run Tryd.prog w = .ok (.agg #[.int .i64 i, .int .i64 4]) w := fun _ => by kernel_rfl
  have kc := fun (O1 O2 : Obj) => (show (convert 62 62 (.slice (some ⟨w.heap.size + 1 + 1, 0, none⟩) 2 2)).run Tryd.prog (((w.alloc O1).alloc O2).alloc (.cells #[.int .u8 77, .int .u8 49] 5)) = _ by
    have := Lib.run_convert_bytes_const (P := Tryd.prog) ((w.alloc O1).alloc O2) 62 5 #[.int .u8 77, .int .u8 49] 2 2 Tryd.underlying62 Tryd.underlying5
    simpa using this)
  go_enter Tryd.func27, Tryd.ntmps27
  go_wp2_with (go_at_call 49; refine (iright_any _ _ _ _).mono ?_; rintro e w' ⟨rfl, rfl⟩)
  refine wp_loop_rounds 4 ?_
  have r0 : Hid (Reads (((w.alloc (.cells #[.int .i64 c, .int .i64 h, .int .i64 i] 66)).alloc (.cells #[.int .i64 c, .int .i64 h, .int .i64 i] 66)).alloc (.cells #[.int .u8 77, .int .u8 49] 5 (2, 3))) (w.heap.size + 3) 1 (some ⟨w.heap.size + 1 + 1, 0, none⟩) 2 (bv [77, 49])) := by
    have := Reads.marked ((w.alloc (.cells #[.int .i64 c, .int .i64 h, .int .i64 i] 66)).alloc (.cells #[.int .i64 c, .int .i64 h, .int .i64 i] 66)) 5 #[.int .u8 77, .int .u8 49] (2, 3) 1 2 rfl
    exact Lib.hid (by simpa [bv] using this)
  have B0 : Hid (Below w.heap.size w (((w.alloc (.cells #[.int .i64 c, .int .i64 h, .int .i64 i] 66)).alloc (.cells #[.int .i64 c, .int .i64 h, .int .i64 i] 66)).alloc (.cells #[.int .u8 77, .int .u8 49] 5 (2, 3)))) :=
    ((((Below.refl _ _).alloc (Nat.le_refl _) _).alloc (by simp) _).alloc (by simp; omega) _)
  have S0 : Hid ((((w.alloc (.cells #[.int .i64 c, .int .i64 h, .int .i64 i] 66)).alloc (.cells #[.int .i64 c, .int .i64 h, .int .i64 i] 66)).alloc (.cells #[.int .u8 77, .int .u8 49] 5 (2, 3))).heap.size = w.heap.size + 3) := by
    show _ = _
    simp
  generalize ((w.alloc (.cells #[.int .i64 c, .int .i64 h, .int .i64 i] 66)).alloc (.cells #[.int .i64 c, .int .i64 h, .int .i64 i] 66)).alloc (.cells #[.int .u8 77, .int .u8 49] 5 (2, 3)) = W0 at *
  rw [rounds_succ]
  go_wp2_with fail
  refine (fput_len _ 2 2 [77, 49] c 8 _ rfl ?_ (by simp) (by omega) (by simp) (by omega) 8 rfl).mono ?_
  · have := S0.out
    exact (r0.out.alloc (by omega) _).wider (by simp; omega)
  rintro e W1 ⟨v1, rfl, ho1, hb1⟩
  obtain ⟨A1, c1, rfl, hr1⟩ := own_slice ho1
  have B1 := Lib.hid ((B0.out.alloc B0.out.size (.cells #[.int .i64 c, .int .i64 8] 97)).trans (hb1.mono (by have := B0.out.size; simp; omega)))
  have R1 := Lib.hid hr1
  clear hb1 ho1 hr1
  go_wp2_with fail
  rw [rounds_succ]
  go_wp2_with fail
  refine (fput_len A1 10 c1 ([77, 49] ++ lowB 8 c) h 4 _ (by simp [lowB_len]) ?_ (by simp) (by omega) (by simp) (by omega) 4 rfl).mono ?_
  · exact (R1.out.alloc (Nat.le_refl _) _).wider (by simp)
  rintro e W2 ⟨v2, rfl, ho2, hb2⟩
  obtain ⟨A2, c2, rfl, hr2⟩ := own_slice ho2
  have B2 := Lib.hid ((B1.out.alloc B1.out.size (.cells #[.int .i64 h, .int .i64 4] 97)).trans (hb2.mono (by have := B1.out.size; simp; omega)))
  have R2 := Lib.hid hr2
  clear hb2 ho2 hr2
  go_wp2_with fail
  rw [rounds_succ]
  go_wp2_with fail
  refine (fput_len A2 14 c2 ([77, 49] ++ lowB 8 c ++ lowB 4 h) i 4 _ (by simp [lowB_len]) ?_ (by simp) (by omega) (by simp) (by omega) 4 rfl).mono ?_
  · exact (R2.out.alloc (Nat.le_refl _) _).wider (by simp)
  rintro e W3 ⟨v3, rfl, ho3, hb3⟩
  have B3 := Lib.hid ((B2.out.alloc B2.out.size (.cells #[.int .i64 i, .int .i64 4] 97)).trans (hb3.mono (by have := B2.out.size; simp; omega)))
  have O3 := Lib.hid (own_lower ho3 (by have := B2.out.size; simp; omega) : W3.ownsRow w.heap.size _ _ _ _ _)
  clear hb3 ho3
  go_wp2_with fail
  rw [rounds_succ]
  go_wp2_with fail
  go_ret2
  exact ⟨_, rfl, O3.out, B3.out⟩

theorem timerKey_ok (a i p : Int) (h : 0 ≤ a ∧ a ≤ 1099511627776 ∧ 1 ≤ i ∧ i ≤ 2147483647 ∧ 0 ≤ p ∧ p < 8) (w : World) :
    Calls Tryd.prog 26 #[.int .i64 a, .int .i64 i, .int .i64 p] w fun e w' => e = .returned (.tuple #[.string ⟨(timerKey a.toNat i.toNat p.toNat).toArray⟩, .nilIface]) ∧ Below w.heap.size w w' := by
  obtain ⟨a, rfl⟩ := Int.eq_ofNat_of_zero_le h.1
  obtain ⟨i, rfl⟩ := Int.eq_ofNat_of_zero_le (show 0 ≤ i by omega)
  obtain ⟨p, rfl⟩ := Int.eq_ofNat_of_zero_le (show 0 ≤ p by omega)
  simp only [Int.toNat_natCast]
  exact timerKey_yes a i p (by omega) (by omega) (by omega) (by omega) w

def okT (a i p : Int) : Prop := 0 ≤ a ∧ a ≤ 1099511627776 ∧ 1 ≤ i ∧ i ≤ 2147483647 ∧ 0 ≤ p ∧ p < 8
theorem timerKey_any (a i p : Int) (w : World) (aR : Addr) (hr : Sent w 1 aR) :
    Calls Tryd.prog 26 #[.int .i64 a, .int .i64 i, .int .i64 p] w fun e w' => ∃ s E, e = .returned (.tuple #[.string ⟨s.toArray⟩, E]) ∧ Below w.heap.size w w' ∧
      ((okT a i p ∧ s = timerKey a.toNat i.toNat p.toNat ∧ E = .nilIface) ∨ (¬ okT a i p ∧ s = [] ∧ ErrAt w' aR 1 E)) := by
  by_cases h : okT a i p
  · exact (timerKey_ok a i p h w).mono fun e w' ⟨h1, h2⟩ => ⟨_, _, h1, h2, .inl ⟨h, rfl, rfl⟩⟩
  · refine (timerKey_no a i p h w _ _ hr.1).mono fun e w' ⟨s, h1, h2⟩ => ⟨[], _, h1, ?_, .inr ⟨h, rfl, ?_⟩⟩
    · subst h2
      exact (Below.refl _ _).alloc (Nat.le_refl _) _
    · subst h2
      exact ErrAt.new hr s (-1)

theorem metaKey_any (w : World) : Calls Tryd.prog 28 #[] w fun e w' => e = .returned (.string ⟨#[109]⟩) ∧ w = w' := by
  go_enter Tryd.func28, Tryd.ntmps28
  go_wp2
  go_ret
  exact ⟨rfl, rfl⟩

set_option maxHeartbeats 1000000 in
set_option maxRecDepth 100000 in
theorem awake35 (w : World) : Calls Tryd.prog 11 #[] w fun e w' => e = .returned (.bool true) ∧ Below w.heap.size w w' := by
  go_enter Tryd.func11, Tryd.ntmps11
  go_wp2_with fail
  refine (timerKey_ok 258 1 0 (by decide) _).mono ?_
  rintro e w1 ⟨rfl, hb1⟩
  rw [show timerKey (Int.toNat 258) (Int.toNat 1) (Int.toNat 0) = [116, 0, 0, 0, 0, 1, 2, 0, 0, 0, 1, 0] by decide +kernel]
  go_wp2_with fail
  refine (putMeta_yes 3 0 0 _ (by decide) (by decide) (by decide)).mono ?_
  rintro e w2 ⟨v, rfl, ho, hb2⟩
  obtain ⟨A, c, rfl, -⟩ := own_slice ho
  have HB := Lib.hid (hb1.trans (hb2.mono hb1.size))
  clear ho hb1 hb2
  go_wp2_with (go_at_call 28; refine (metaKey_any _).mono ?_; rintro e w' ⟨rfl, rfl⟩)
  go_ret
  exact ⟨rfl, HB.out⟩
end Go.Proofs.YtbnanjcghhfcpaaDoor
