/- micro.Same, record.Same. -/
import Derived.Test.YtbleibmjippmpaaDoorSame2
namespace Go.Proofs.YtbleibmjippmpaaDoor
open Go.RowKit

def sameIn (r r' : Rc) : Bool := decide (r.mem = r'.mem) && decide (r.over = r'.over) && decide (r.active = r'.active) && decide (r.vars = r'.vars) && decide (r.timers = r'.timers)
def sameRc (r r' : Rc) : Bool := decide (r.chart = r'.chart) && decide (r.born = r'.born) && decide (r.steps = r'.steps) && sameIn r r'
theorem sameRc_self (r : Rc) : sameRc r r = true := by simp [sameRc, sameIn]
theorem five {w : World} {g : Nat} {t : TypeId} {a b c d e : Value} (h : Whole w g t #[a, b, c, d, e]) : w.cell? ⟨g, 0, none⟩ = some a ∧ w.cell? ⟨g, 1, none⟩ = some b ∧ w.cell? ⟨g, 2, none⟩ = some c ∧ w.cell? ⟨g, 3, none⟩ = some d ∧ w.cell? ⟨g, 4, none⟩ = some e :=
  ⟨h.cell 0, h.cell 1, h.cell 2, h.cell 3, h.cell 4⟩

set_option maxHeartbeats 2000000 in
set_option maxRecDepth 100000 in
theorem msame_any (r r' : Rc) (va vv vm vt va' vv' vm' vt' : Value) (w : World) (h : InAt w w.heap.size va vv vm vt r) (h' : InAt w w.heap.size va' vv' vm' vt' r') :
    Calls Tryd.prog 84 #[.agg #[va, vv, vm, vt, .bool r.over], .agg #[va', vv', vm', vt', .bool r'.over]] w fun e w' => e = .returned (.bool (sameIn r r')) ∧ Below w.heap.size w w' := by
  have hb := ((Below.refl w.heap.size w).alloc (Nat.le_refl _) (.cells #[va, vv, vm, vt, .bool r.over] 50)).alloc (by simp) (.cells #[va', vv', vm', vt', .bool r'.over] 50)
  have H1 := Lib.hid (h.below hb)
  have H2 := Lib.hid (h'.below hb)
  have HB := Lib.hid hb
  have M1 := Lib.hid ((Whole.new w 50 #[va, vv, vm, vt, .bool r.over]).alloc (.cells #[va', vv', vm', vt', .bool r'.over] 50))
  have M2 := Whole.new (w.alloc (.cells #[va, vv, vm, vt, .bool r.over] 50)) 50 #[va', vv', vm', vt', .bool r'.over]
  rw [World.size_alloc] at M2
  have HM2 := Lib.hid M2
  obtain ⟨A1, k1, e1, _, _⟩ := h.act.form
  obtain ⟨A2, k2, e2, _, _⟩ := h.vars.form
  obtain ⟨A3, k3, e3, _, _⟩ := h.mem.form
  obtain ⟨A4, k4, e4, _, _⟩ := h.tms.form
  obtain ⟨A5, k5, e5, _, _⟩ := h'.act.form
  obtain ⟨A6, k6, e6, _, _⟩ := h'.vars.form
  obtain ⟨A7, k7, e7, _, _⟩ := h'.mem.form
  obtain ⟨A8, k8, e8, _, _⟩ := h'.tms.form
  subst e1 e2 e3 e4 e5 e6 e7 e8
  clear h h' hb M2
  go_enter Tryd.func84, Tryd.ntmps84
  go_wp2_with fail
  refine (eqMems_any _ _ r.mem r'.mem _ H1.out.mem H2.out.mem).mono ?_
  rintro e w1 ⟨rfl, hb1⟩
  have I1 := Lib.hid (H1.out.below hb1)
  have I2 := Lib.hid (H2.out.below hb1)
  have B1 := Lib.hid (HB.out.trans (hb1.mono (by simp; omega)))
  obtain ⟨m0, m1, m2, m3, m4⟩ := five (M1.out.below hb1 (by simp; omega))
  obtain ⟨n0, n1, n2, n3, n4⟩ := five (HM2.out.below hb1 (by simp))
  have HS := Lib.hid (show sameIn r r' = (decide (r.mem = r'.mem) && decide (r.over = r'.over) && decide (r.active = r'.active) && decide (r.vars = r'.vars) && decide (r.timers = r'.timers)) from rfl)
  clear hb1 H1 H2 HB M1 HM2
  cases d1 : decide (r.mem = r'.mem)
  · have kn := Lib.hid (show sameIn r r' = false by rw [HS.out, d1]; rfl)
    go_wp2_with fail
    go_ret
    rw [kn.out]
    exact ⟨rfl, B1.out⟩
  have eo : (r.over == r'.over) = decide (r.over = r'.over) := by cases r.over <;> cases r'.over <;> rfl
  cases d2 : decide (r.over = r'.over)
  · have kn := Lib.hid (show sameIn r r' = false by rw [HS.out, d1, d2]; rfl)
    rw [d2] at eo
    go_wp2_with fail
    go_ret
    rw [kn.out]
    exact ⟨rfl, B1.out⟩
  rw [d2] at eo
  go_wp2_with fail
  refine (eqInts_any _ _ r.active r'.active _ _ _ I1.out.act I2.out.act).mono ?_
  rintro e w2 ⟨rfl, q2, hq2⟩
  have hb2 : Below w1.heap.size w1 w2 := by rw [hq2]; exact below_drewN (Below.refl _ _) _
  have J1 := Lib.hid (I1.out.below hb2)
  have J2 := Lib.hid (I2.out.below hb2)
  have B2 := Lib.hid (B1.out.trans (hb2.mono B1.out.size))
  have m1 := cell_below m1 hb2
  have m3 := cell_below m3 hb2
  have n1 := cell_below n1 hb2
  have n3 := cell_below n3 hb2
  clear hb2 hq2 I1 I2 B1
  cases d3 : decide (r.active = r'.active)
  · have kn := Lib.hid (show sameIn r r' = false by rw [HS.out, d1, d2, d3]; rfl)
    go_wp2_with fail
    go_ret
    rw [kn.out]
    exact ⟨rfl, B2.out⟩
  go_wp2_with fail
  refine (eqInts_any _ _ r.vars r'.vars _ _ _ J1.out.vars J2.out.vars).mono ?_
  rintro e w3 ⟨rfl, q3, hq3⟩
  have hb3 : Below w2.heap.size w2 w3 := by rw [hq3]; exact below_drewN (Below.refl _ _) _
  have L1 := Lib.hid (J1.out.below hb3)
  have L2 := Lib.hid (J2.out.below hb3)
  have B3 := Lib.hid (B2.out.trans (hb3.mono B2.out.size))
  have m3 := cell_below m3 hb3
  have n3 := cell_below n3 hb3
  clear hb3 hq3 J1 J2 B2
  cases d4 : decide (r.vars = r'.vars)
  · have kn := Lib.hid (show sameIn r r' = false by rw [HS.out, d1, d2, d3, d4]; rfl)
    go_wp2_with fail
    go_ret
    rw [kn.out]
    exact ⟨rfl, B3.out⟩
  go_wp2_with fail
  refine (eqTms_any _ _ r.timers r'.timers _ _ _ L1.out.tms L2.out.tms).mono ?_
  rintro e w4 ⟨rfl, q4, hq4⟩
  have B4 := Lib.hid (show Below w.heap.size w w4 by rw [hq4]; exact below_drewN B3.out _)
  have kn := Lib.hid (show sameIn r r' = decide (r.timers = r'.timers) by rw [HS.out, d1, d2, d3, d4]; simp)
  clear hq4 B3
  go_wp2_with fail
  go_ret
  rw [kn.out]
  exact ⟨rfl, B4.out⟩

set_option maxHeartbeats 2000000 in
set_option maxRecDepth 100000 in
theorem same_any (r r' : Rc) (va vv vm vt va' vv' vm' vt' : Value) (w : World) (h : InAt w w.heap.size va vv vm vt r) (h' : InAt w w.heap.size va' vv' vm' vt' r') :
    Calls Tryd.prog 35 #[.agg (recV r va vv vm vt), .agg (recV r' va' vv' vm' vt')] w fun e w' => e = .returned (.bool (sameRc r r')) ∧ Below w.heap.size w w' := by
  have hb := ((Below.refl w.heap.size w).alloc (Nat.le_refl _) (.cells (recV r va vv vm vt) 52)).alloc (by simp) (.cells (recV r' va' vv' vm' vt') 52)
  have H1 := Lib.hid (h.below hb)
  have H2 := Lib.hid (h'.below hb)
  have HB := Lib.hid hb
  obtain ⟨A1, k1, e1, _, _⟩ := h.act.form
  obtain ⟨A2, k2, e2, _, _⟩ := h.vars.form
  obtain ⟨A3, k3, e3, _, _⟩ := h.mem.form
  obtain ⟨A4, k4, e4, _, _⟩ := h.tms.form
  obtain ⟨A5, k5, e5, _, _⟩ := h'.act.form
  obtain ⟨A6, k6, e6, _, _⟩ := h'.vars.form
  obtain ⟨A7, k7, e7, _, _⟩ := h'.mem.form
  obtain ⟨A8, k8, e8, _, _⟩ := h'.tms.form
  subst e1 e2 e3 e4 e5 e6 e7 e8
  have HS := Lib.hid (show sameRc r r' = (decide (r.chart = r'.chart) && decide (r.born = r'.born) && decide (r.steps = r'.steps) && sameIn r r') from rfl)
  clear h h' hb
  simp only [recV] at *
  cases d1 : (r.chart == r'.chart)
  · have kn := Lib.hid (show sameRc r r' = false by rw [HS.out, decide_eq_false (by simpa using d1)]; rfl)
    go_enter Tryd.func35, Tryd.ntmps35
    go_wp2_with fail
    go_ret
    rw [kn.out]
    exact ⟨rfl, HB.out⟩
  cases d2 : (r.born == r'.born)
  · have kn := Lib.hid (show sameRc r r' = false by rw [HS.out, decide_eq_false (show ¬ r.born = r'.born by simpa using d2)]; simp)
    go_enter Tryd.func35, Tryd.ntmps35
    go_wp2_with fail
    go_ret
    rw [kn.out]
    exact ⟨rfl, HB.out⟩
  cases d3 : (r.steps == r'.steps)
  · have kn := Lib.hid (show sameRc r r' = false by rw [HS.out, decide_eq_false (show ¬ r.steps = r'.steps by simpa using d3)]; simp)
    go_enter Tryd.func35, Tryd.ntmps35
    go_wp2_with fail
    go_ret
    rw [kn.out]
    exact ⟨rfl, HB.out⟩
  have kn := Lib.hid (show sameRc r r' = sameIn r r' by rw [HS.out, decide_eq_true (show r.chart = r'.chart by simpa using d1), decide_eq_true (show r.born = r'.born by simpa using d2), decide_eq_true (show r.steps = r'.steps by simpa using d3)]; simp)
  go_enter Tryd.func35, Tryd.ntmps35
  go_wp2_with fail
  refine (msame_any r r' _ _ _ _ _ _ _ _ _ H1.out H2.out).mono ?_
  rintro e w1 ⟨rfl, hb1⟩
  have B1 := Lib.hid (HB.out.trans (hb1.mono (by simp; omega)))
  clear hb1
  go_wp2_with fail
  go_ret
  rw [kn.out]
  exact ⟨rfl, B1.out⟩
end Go.Proofs.YtbleibmjippmpaaDoor
