/- light, of, awake of layer 34. -/
import Derived.Test.YtbleibmjippmpaaDoorSame5
import Derived.Test.YtbleibmjippmpaaDoorRec13
namespace Go.Proofs.YtbleibmjippmpaaDoor
open Go.RowKit

def lightB (r : Rc) : Bool := (decide (r.mem.length ≤ 60) && decide (r.active.length ≤ 60) && decide (r.vars.length ≤ 60) && decide (r.timers.length ≤ 60)) && allB r.mem.length (fun j => decide ((r.mem.getD j (0, [])).2.length ≤ 60))

set_option maxHeartbeats 2000000 in
set_option maxRecDepth 100000 in
theorem light_any (r : Rc) (va vv vm vt : Value) (w : World) (h : InAt w w.heap.size va vv vm vt r) :
    Calls Tryd.prog 29 #[.agg (recV r va vv vm vt)] w fun e w' => e = .returned (.bool (lightB r)) ∧ Below w.heap.size w w' := by
  have hb := (Below.refl w.heap.size w).alloc (Nat.le_refl _) (.cells (recV r va vv vm vt) 52)
  have H1 := Lib.hid (h.below hb)
  have HB := Lib.hid hb
  obtain ⟨A1, k1, e1, l1, mx1⟩ := h.act.form
  obtain ⟨A2, k2, e2, l2, mx2⟩ := h.vars.form
  obtain ⟨A3, k3, e3, l3, mx3⟩ := h.mem.form
  obtain ⟨A4, k4, e4, l4, mx4⟩ := h.tms.form
  subst e1 e2 e3 e4
  unfold maxLen at mx1 mx2 mx3 mx4
  have HS := Lib.hid (show lightB r = ((decide (r.mem.length ≤ 60) && decide (r.active.length ≤ 60) && decide (r.vars.length ≤ 60) && decide (r.timers.length ≤ 60)) && allB r.mem.length (fun j => decide ((r.mem.getD j (0, [])).2.length ≤ 60))) from rfl)
  clear h hb
  simp only [recV] at *
  by_cases q1 : ¬ r.mem.length ≤ 60
  · have kn := Lib.hid (show lightB r = false by rw [HS.out, decide_eq_false q1]; rfl)
    go_enter Tryd.func29, Tryd.ntmps29
    go_wp2_with fail
    go_ret
    rw [kn.out]
    exact ⟨rfl, HB.out⟩
  by_cases q2 : ¬ r.active.length ≤ 60
  · have kn := Lib.hid (show lightB r = false by rw [HS.out, decide_eq_false q2]; simp)
    have q1 : r.mem.length ≤ 60 := by omega
    go_enter Tryd.func29, Tryd.ntmps29
    go_wp2_with fail
    go_ret
    rw [kn.out]
    exact ⟨rfl, HB.out⟩
  by_cases q3 : ¬ r.vars.length ≤ 60
  · have kn := Lib.hid (show lightB r = false by rw [HS.out, decide_eq_false q3]; simp)
    have q1 : r.mem.length ≤ 60 := by omega
    have q2 : r.active.length ≤ 60 := by omega
    go_enter Tryd.func29, Tryd.ntmps29
    go_wp2_with fail
    go_ret
    rw [kn.out]
    exact ⟨rfl, HB.out⟩
  by_cases q4 : ¬ r.timers.length ≤ 60
  · have kn := Lib.hid (show lightB r = false by rw [HS.out, decide_eq_false q4]; simp)
    have q1 : r.mem.length ≤ 60 := by omega
    have q2 : r.active.length ≤ 60 := by omega
    have q3 : r.vars.length ≤ 60 := by omega
    go_enter Tryd.func29, Tryd.ntmps29
    go_wp2_with fail
    go_ret
    rw [kn.out]
    exact ⟨rfl, HB.out⟩
  have q1 : r.mem.length ≤ 60 := by omega
  have q2 : r.active.length ≤ 60 := by omega
  have q3 : r.vars.length ≤ 60 := by omega
  have q4 : r.timers.length ≤ 60 := by omega
  have HS2 := Lib.hid (show lightB r = allB r.mem.length (fun j => decide ((r.mem.getD j (0, [])).2.length ≤ 60)) by rw [HS.out]; simp [q1, q2, q3, q4])
  go_enter Tryd.func29, Tryd.ntmps29
  go_wp2_with fail
  go_loop [3] (fun i => ∃ k : Nat, k ≤ r.mem.length ∧ i = .int .i64 k ∧ ∀ j, j < k → decide ((r.mem.getD j (0, [])).2.length ≤ 60) = true) (fun i => r.mem.length - (intOf i).toNat)
  case atStart => exact ⟨0, by omega, rfl, fun j hj => by omega⟩
  case round =>
    obtain ⟨k, hk, rfl, hall⟩ := hrel
    have HA := Lib.hid hall
    clear hall
    by_cases hlt : k < r.mem.length
    · obtain ⟨b, off, eA, hb, hc⟩ := mems_at H1.out.mem k hlt
      subst eA
      obtain ⟨sv, c1, c2, hsv⟩ := hc k hlt
      obtain ⟨A5, k5, e5, l5, mx5⟩ := hsv.form
      subst e5
      unfold maxLen at mx5
      have good : Hid ((r.mem.getD k (0, [])).2.length ≤ 60 → ∀ j, j < k + 1 → decide ((r.mem.getD j (0, [])).2.length ≤ 60) = true) := Lib.hid (fun hh j hj => by
        rcases Nat.lt_or_ge j k with h | h
        · exact HA.out j h
        · obtain rfl : j = k := by omega
          exact decide_eq_true hh)
      have bad : Hid (¬ (r.mem.getD k (0, [])).2.length ≤ 60 → lightB r = false) := Lib.hid (fun hh => by rw [HS2.out]; exact allB_false hlt (decide_eq_false hh))
      generalize (r.mem.getD k (0, [])).2.length = n5 at *
      clear hc hsv c1
      by_cases hq : n5 ≤ 60
      · have kn := Lib.hid (good.out hq)
        go_wp2_with fail
        go_round
        case rel => exact ⟨k + 1, by omega, by go_num, kn.out⟩
        case measure => simp [intOf]; omega
      · have kn := Lib.hid (bad.out hq)
        go_wp2_with fail
        go_ret
        rw [kn.out]
        exact ⟨rfl, HB.out⟩
    · obtain rfl : k = r.mem.length := by omega
      have kn := Lib.hid (show lightB r = true by rw [HS2.out]; exact allB_true HA.out)
      go_wp2_with fail
      go_ret
      rw [kn.out]
      exact ⟨rfl, HB.out⟩

set_option maxHeartbeats 1000000 in
set_option maxRecDepth 100000 in
theorem of_any (r : Rc) (va vv vm vt : Value) (w : World) (h : InAt w w.heap.size va vv vm vt r) :
    Calls Tryd.prog 34 #[.agg (recV r va vv vm vt)] w fun e w' => e = .returned (.agg (recV r va vv vm vt)) ∧ Below w.heap.size w w' := by
  obtain ⟨A1, k1, e1, _, _⟩ := h.act.form
  obtain ⟨A2, k2, e2, _, _⟩ := h.vars.form
  obtain ⟨A3, k3, e3, _, _⟩ := h.mem.form
  obtain ⟨A4, k4, e4, _, _⟩ := h.tms.form
  subst e1 e2 e3 e4
  clear h
  go_enter Tryd.func34, Tryd.ntmps34
  go_wp2_with fail
  refine bodyPost_ret (v := .agg (recV r (.slice A1 r.active.length k1) (.slice A2 r.vars.length k2) (.slice A3 r.mem.length k3) (.slice A4 r.timers.length k4))) (by simp [results, Tryd.results34, go_sem]) rfl ?_
  exact ⟨rfl, by go_grown⟩

def rc0 : Rc := ⟨1, 0, 0, [0], [3, -3], [], [], false⟩
theorem rc0_right : rightB rc0 = true := by decide +kernel
theorem rc0_len : (recBs rc0).length = 38 := by decide +kernel
theorem rc0_at : (bv (recBs rc0))[28]? = some (.int .u8 6) := by
  have h : (recBs rc0)[28]? = some 6 := by decide +kernel
  rw [bv, List.getElem?_map, h]
  rfl
theorem rc0_in (w : World) : InAt (((w.alloc (.cells #[.int .i64 0] 3)).alloc (.cells #[.int .i64 3, .int .i64 (-3)] 3)).alloc (.cells #[.int .i64 1, .int .i64 0, .int .i64 0, .slice (some ⟨w.heap.size, 0, none⟩) 1 1, .slice (some ⟨w.heap.size + 1, 0, none⟩) 2 2, .slice none 0 0, .slice none 0 0, .bool false] 52))
    (((w.alloc (.cells #[.int .i64 0] 3)).alloc (.cells #[.int .i64 3, .int .i64 (-3)] 3)).alloc (.cells #[.int .i64 1, .int .i64 0, .int .i64 0, .slice (some ⟨w.heap.size, 0, none⟩) 1 1, .slice (some ⟨w.heap.size + 1, 0, none⟩) 2 2, .slice none 0 0, .slice none 0 0, .bool false] 52)).heap.size
    (.slice (some ⟨w.heap.size, 0, none⟩) 1 1) (.slice (some ⟨w.heap.size + 1, 0, none⟩) 2 2) (.slice none 0 0) (.slice none 0 0) rc0 := by
  have h1 := ((Reads.boxed w 3 #[.int .i64 0] 1 1 rfl).alloc (by simp) (.cells #[.int .i64 3, .int .i64 (-3)] 3)).alloc (by simp) (.cells #[.int .i64 1, .int .i64 0, .int .i64 0, .slice (some ⟨w.heap.size, 0, none⟩) 1 1, .slice (some ⟨w.heap.size + 1, 0, none⟩) 2 2, .slice none 0 0, .slice none 0 0, .bool false] 52)
  have h2 := (Reads.boxed (w.alloc (.cells #[.int .i64 0] 3)) 3 #[.int .i64 3, .int .i64 (-3)] 1 2 rfl).alloc (by simp) (.cells #[.int .i64 1, .int .i64 0, .int .i64 0, .slice (some ⟨w.heap.size, 0, none⟩) 1 1, .slice (some ⟨w.heap.size + 1, 0, none⟩) 2 2, .slice none 0 0, .slice none 0 0, .bool false] 52)
  rw [World.size_alloc] at h2
  refine ⟨ListAt.of_one (l := [0]) rfl (Nat.le_refl _) (by unfold maxLen; omega) (h1.wider (by simp <;> omega)), ListAt.of_one (l := [3, -3]) rfl (Nat.le_refl _) (by unfold maxLen; omega) (h2.wider (by simp <;> omega)), ?_, ?_⟩
  · exact ⟨none, 0, [], rfl, Nat.le_refl _, Nat.zero_le _, Reads.empty _ _ _ _, rows_nil _ _⟩
  · exact ⟨none, 0, [], rfl, Nat.le_refl _, Nat.zero_le _, Reads.empty _ _ _ _, rows_nil _ _⟩

set_option maxHeartbeats 2000000 in
set_option maxRecDepth 100000 in
theorem awake34 (w : World) (aF : Addr) (hS : Sent w 0 aF) (hT : TabAt w) :
    Calls Tryd.prog 30 #[] w fun e w' => e = .returned (.bool true) ∧ Below w.heap.size w w' := by
  have hb0 := (((Below.refl w.heap.size w).alloc (Nat.le_refl _) (.cells #[.int .i64 0] 3)).alloc (by simp) (.cells #[.int .i64 3, .int .i64 (-3)] 3)).alloc (by simp; omega) (.cells #[.int .i64 1, .int .i64 0, .int .i64 0, .slice (some ⟨w.heap.size, 0, none⟩) 1 1, .slice (some ⟨w.heap.size + 1, 0, none⟩) 2 2, .slice none 0 0, .slice none 0 0, .bool false] 52)
  have S0 := Lib.hid (hS.below hb0)
  have T0 := Lib.hid (hT.below hb0)
  have B0 := Lib.hid hb0
  have I0 := Lib.hid (rc0_in w)
  have hM0 := Whole.new ((w.alloc (.cells #[.int .i64 0] 3)).alloc (.cells #[.int .i64 3, .int .i64 (-3)] 3)) 52 #[.int .i64 1, .int .i64 0, .int .i64 0, .slice (some ⟨w.heap.size, 0, none⟩) 1 1, .slice (some ⟨w.heap.size + 1, 0, none⟩) 2 2, .slice none 0 0, .slice none 0 0, .bool false]
  rw [World.size_alloc, World.size_alloc] at hM0
  have M0 := Lib.hid hM0
  clear hS hT hb0 hM0
  go_enter Tryd.func30, Tryd.ntmps30
  go_wp2_with fail
  refine (put_yes rc0 _ _ _ _ _ I0.out aF S0.out rc0_right).mono ?_
  rintro e w1 ⟨v1, rfl, hl1, hb1⟩
  obtain ⟨A1, c1, e1, hc1, _, hr1⟩ := hl1.one
  rw [rc0_len] at e1 hc1 hr1
  subst e1
  have S1 := Lib.hid (S0.out.below hb1)
  have T1 := Lib.hid (T0.out.below hb1)
  have I1 := Lib.hid (I0.out.below hb1)
  have M1 := Lib.hid (M0.out.below hb1 (by simp))
  have B1 := Lib.hid (B0.out.trans (hb1.mono (by simp; omega)))
  have R1 := Lib.hid (show Reads w1 w1.heap.size 1 A1 38 (bv (recBs rc0)) from hr1)
  clear hb1 hl1 hr1 S0 T0 I0 M0 B0
  go_wp2_with fail
  refine (get_any A1 38 c1 (recBs rc0) _ rc0_len R1.out hc1 (by omega) aF S1.out T1.out).mono ?_
  rintro e w2 ⟨va, vv, vm, vt, r, E, rfl, hb2, ho, hk⟩
  rw [getR_back rc0 rc0_right] at hk
  obtain ⟨rfl, rfl⟩ : rc0 = r ∧ E = .nilIface := by
    rcases hk with ⟨h1, h2⟩ | ⟨h1, _⟩
    · exact ⟨Option.some.inj h1, h2⟩
    · cases h1
  have hI2 := (ho.inAt).alloc (.cells (recV rc0 va vv vm vt) 52)
  have J2 := Lib.hid hI2
  have I2 := Lib.hid ((I1.out.below hb2).alloc (.cells (recV rc0 va vv vm vt) 52))
  have M2 := Lib.hid ((M1.out.below hb2 M1.out.lt).alloc (.cells (recV rc0 va vv vm vt) 52))
  have N2 := Lib.hid (Whole.new w2 52 (recV rc0 va vv vm vt))
  have B2 := Lib.hid ((B1.out.trans (hb2.mono B1.out.size)).alloc (by have := (B1.out.trans (hb2.mono B1.out.size)).size; exact this) (.cells (recV rc0 va vv vm vt) 52))
  have R2 := Lib.hid ((((R1.out.below hb2).wider hb2.size).alloc (Nat.le_refl _) (.cells (recV rc0 va vv vm vt) 52)).wider (B' := (w2.alloc (.cells (recV rc0 va vv vm vt) 52)).heap.size) (by simp))
  obtain ⟨Aa, ka, ea, _⟩ := ho.inAt.act.form
  obtain ⟨Av, kv, ev, _⟩ := ho.inAt.vars.form
  obtain ⟨Am, km, em, _⟩ := ho.inAt.mem.form
  obtain ⟨At, kt, et, _⟩ := ho.inAt.tms.form
  subst ea ev em et
  obtain ⟨x0, x1, x2, x3, x4, x5, x6, x7⟩ := c8 (M1.out.below hb2 M1.out.lt)
  have hz2 : w.heap.size + 2 < w2.heap.size := (M1.out.below hb2 M1.out.lt).lt
  clear hb2 ho hk hI2 S1 T1 I1 M1 B1 R1
  go_wp2_with fail
  refine (same_any rc0 rc0 _ _ _ _ _ _ _ _ _ J2.out I2.out).mono ?_
  rintro e w3 ⟨rfl, hb3⟩
  rw [sameRc_self]
  have R3 := (R2.out.below hb3)
  obtain ⟨b, off, u, rfl, _, hu, hcell⟩ := R3.at_ (k := 28) (by omega)
  rw [rc0_at] at hu
  cases hu
  have B3 := Lib.hid (B2.out.trans (hb3.mono (by have := B2.out.size; exact this)))
  clear hb3 R3 R2 B2 J2 I2 M2 N2 x0 x1 x2 x3 x4 x5 x6 x7
  go_wp2_with fail
  go_ret
  exact ⟨rfl, B3.out⟩
end Go.Proofs.YtbleibmjippmpaaDoor
