/- The walk of IndexOrders: it returns true, whatever two timers come in. -/
import Derived.Test.YtgakgdohbliaeaaDoorOrd
import Derived.Test.YtgakgdohbliaeaaDoorMeta
namespace Go.Proofs.YtgakgdohbliaeaaDoor
open Go.RowKit

def aheadB (a b c a' b' c' : Int) : Bool := if a = a' then (if b = b' then decide (c < c') else decide (b < b')) else decide (a < a')

theorem ahead_any (a b c a' b' c' : Int) (w : World) : Calls Tryd.prog 12 #[.agg #[.int .i64 a, .int .i64 b, .int .i64 c], .agg #[.int .i64 a', .int .i64 b', .int .i64 c']] w fun e w' => e = .returned (.bool (aheadB a b c a' b' c')) ∧ Below w.heap.size w w' := by
  by_cases h1 : a = a'
  · subst h1
    by_cases h2 : b = b'
    · subst h2
      go_enter Tryd.func12, Tryd.ntmps12
      go_wp2
      go_ret
      exact ⟨by simp [aheadB], by go_grown⟩
    · have e : (b != b') = true := by simp [h2]
      go_enter Tryd.func12, Tryd.ntmps12
      go_wp2
      go_ret
      exact ⟨by simp [aheadB, h2], by go_grown⟩
  · have e : (a != a') = true := by simp [h1]
    go_enter Tryd.func12, Tryd.ntmps12
    go_wp2
    go_ret
    exact ⟨by simp [aheadB, h1], by go_grown⟩

set_option maxHeartbeats 1000000 in
set_option maxRecDepth 100000 in
theorem orders_ok (a b c a' b' c' : Int) (h : okT a b c) (h' : okT a' b' c') (w : World) :
    Calls Tryd.prog 3 #[.agg #[.int .i64 a, .int .i64 b, .int .i64 c], .agg #[.int .i64 a', .int .i64 b', .int .i64 c']] w fun e w' => e = .returned (.bool true) ∧ Below w.heap.size w w' := by
  have l1 : Hid (Op.bytesLess (timerKey a.toNat b.toNat c.toNat) (timerKey a'.toNat b'.toNat c'.toNat) = aheadB a b c a' b' c') := by
    unfold okT at h h'
    refine Lib.hid ?_
    rw [less_timerKey _ _ _ _ _ _ (by omega) (by omega) (by omega) (by omega) (by omega) (by omega), aheadB]
    have e1 : (a.toNat = a'.toNat) ↔ a = a' := by omega
    have e2 : (b.toNat = b'.toNat) ↔ b = b' := by omega
    have e3 : (a.toNat < a'.toNat) ↔ a < a' := by omega
    have e4 : (b.toNat < b'.toNat) ↔ b < b' := by omega
    have e5 : (c.toNat < c'.toNat) ↔ c < c' := by omega
    simp only [e1, e2, e3, e4, e5]
  have l2 : Hid (timerKey a.toNat b.toNat c.toNat = timerKey a'.toNat b'.toNat c'.toNat ↔ a = a' ∧ b = b' ∧ c = c') := by
    unfold okT at h h'
    refine Lib.hid ?_
    rw [timerKey_inj _ _ _ _ _ _ (by omega) (by omega) (by omega) (by omega) (by omega) (by omega)]
    omega
  go_enter Tryd.func3, Tryd.ntmps3
  go_wp2_with fail
  refine (timerKey_ok a b c h _).mono ?_
  rintro e w1 ⟨rfl, hb1⟩
  have A1 := ((Whole.new w 23 #[.int .i64 a, .int .i64 b, .int .i64 c]).alloc (.cells #[.int .i64 a', .int .i64 b', .int .i64 c'] 23)).below hb1 (by simp; omega)
  have A2 := (Whole.new (w.alloc (.cells #[.int .i64 a, .int .i64 b, .int .i64 c] 23)) 23 #[.int .i64 a', .int .i64 b', .int .i64 c']).below hb1 (by simp)
  have hz1 : w.heap.size + 1 < w1.heap.size := by have := hb1.size; simp at this; omega
  rw [World.size_alloc] at A2
  obtain ⟨p1, p2, p3⟩ := A1.c3
  obtain ⟨p4, p5, p6⟩ := A2.c3
  go_wp2_with fail
  refine (timerKey_ok a' b' c' h' _).mono ?_
  rintro e w2 ⟨rfl, hb2⟩
  have B1 := A1.below hb2 (by omega)
  have B2 := A2.below hb2 (by omega)
  have hz2 : w.heap.size + 1 < w2.heap.size := by have := hb2.size; omega
  have HB := Lib.hid (((((Below.refl w.heap.size w).alloc (Nat.le_refl _) _).alloc (by simp) _).trans (hb1.mono (by simp; omega))).trans (hb2.mono (by omega)))
  clear hb1 hb2 p1 p2 p3 p4 p5 p6 A1 A2
  obtain ⟨p1, p2, p3⟩ := B1.c3
  obtain ⟨p4, p5, p6⟩ := B2.c3
  generalize hx : timerKey a.toNat b.toNat c.toNat = x at *
  generalize hy : timerKey a'.toNat b'.toNat c'.toNat = y at *
  clear hx hy
  go_wp2_with fail
  refine (ahead_any a b c a' b' c' _).mono ?_
  rintro e w3 ⟨rfl, hb3⟩
  have C1 := B1.below hb3 (by omega)
  have C2 := B2.below hb3 (by omega)
  have HB3 := Lib.hid (HB.out.trans (hb3.mono (by omega)))
  have hz3 : w.heap.size + 1 < w3.heap.size := by have := hb3.size; omega
  clear hb3 p1 p2 p3 p4 p5 p6 B1 B2 HB
  obtain ⟨p1, p2, p3⟩ := C1.c3
  obtain ⟨p4, p5, p6⟩ := C2.c3
  clear C1 C2
  rw [l1.out] at *
  by_cases hE : a = a' ∧ b = b' ∧ c = c'
  · have hxy := l2.out.2 hE
    obtain ⟨rfl, rfl, rfl⟩ := hE
    subst hxy
    clear l1 l2
    go_wp2_with (go_at_call 11; refine (awake35 _).mono ?_; rintro e w4 ⟨rfl, hb4⟩)
    all_goals
      go_ret
      exact ⟨rfl, HB3.out.trans (hb4.mono (by omega))⟩
  · have hxy : (x == y) = false := by
      rw [beq_eq_false_iff_ne]
      exact fun h => hE (l2.out.1 h)
    clear l1 l2
    have HE := Lib.hid hE
    clear hE
    go_wp2_with (go_at_call 11; refine (awake35 _).mono ?_; rintro e w4 ⟨rfl, hb4⟩)
    all_goals first
      | (go_ret; exact ⟨rfl, HB3.out.trans (hb4.mono (by omega))⟩)
      | exact absurd ⟨by assumption, by assumption, by assumption⟩ HE.out

set_option maxHeartbeats 1000000 in
set_option maxRecDepth 100000 in
theorem orders_any (a b c a' b' c' : Int) (w : World) (aR : Addr) (hr : Sent w 0 aR) :
    Calls Tryd.prog 3 #[.agg #[.int .i64 a, .int .i64 b, .int .i64 c], .agg #[.int .i64 a', .int .i64 b', .int .i64 c']] w fun e w' => e = .returned (.bool true) ∧ Below w.heap.size w w' := by
  by_cases hh : okT a b c ∧ okT a' b' c'
  · exact orders_ok a b c a' b' c' hh.1 hh.2 w
  have HH := Lib.hid hh
  clear hh
  have hB0 := ((Below.refl w.heap.size w).alloc (Nat.le_refl _) (.cells #[.int .i64 a, .int .i64 b, .int .i64 c] 23)).alloc (by simp) (.cells #[.int .i64 a', .int .i64 b', .int .i64 c'] 23)
  have hr0 := hr.below hB0
  have HB0 := Lib.hid hB0
  have HR0 := Lib.hid hr0
  clear hB0 hr0 hr
  go_enter Tryd.func3, Tryd.ntmps3
  go_wp2_with fail
  refine (timerKey_any a b c _ aR HR0.out).mono ?_
  rintro e w1 ⟨s, E, rfl, hb1, h1⟩
  have A2 := (Whole.new (w.alloc (.cells #[.int .i64 a, .int .i64 b, .int .i64 c] 23)) 23 #[.int .i64 a', .int .i64 b', .int .i64 c']).below hb1 (by simp)
  rw [World.size_alloc] at A2
  obtain ⟨p4, p5, p6⟩ := A2.c3
  have HR1 := Lib.hid (HR0.out.below hb1)
  have HB1 := Lib.hid (HB0.out.trans (hb1.mono (by simp; omega)))
  have H1 := Lib.hid h1
  clear hb1 h1 A2
  go_wp2_with fail
  refine (timerKey_any a' b' c' _ aR HR1.out).mono ?_
  rintro e w2 ⟨s', E', rfl, hb2, h2⟩
  have HB2 := Lib.hid (HB1.out.trans (hb2.mono HB1.out.size))
  clear hb2 p4 p5 p6
  rcases H1.out with ⟨k1, rfl, rfl⟩ | ⟨k1, rfl, hE1⟩
  · rcases h2 with ⟨k2, rfl, rfl⟩ | ⟨k2, rfl, hE2⟩
    · exact absurd ⟨k1, k2⟩ HH.out
    · obtain ⟨t2, v2, rfl⟩ := hE2.form
      clear hE2 H1
      go_wp2_with (go_at_call 11; refine (awake35 _).mono ?_; rintro e w4 ⟨rfl, hb4⟩)
      go_ret
      exact ⟨rfl, HB2.out.trans (hb4.mono HB2.out.size)⟩
  · obtain ⟨t1, v1, rfl⟩ := hE1.form
    clear h2 H1 hE1
    go_wp2_with (go_at_call 11; refine (awake35 _).mono ?_; rintro e w4 ⟨rfl, hb4⟩)
    go_ret
    exact ⟨rfl, HB2.out.trans (hb4.mono HB2.out.size)⟩
end Go.Proofs.YtgakgdohbliaeaaDoor
