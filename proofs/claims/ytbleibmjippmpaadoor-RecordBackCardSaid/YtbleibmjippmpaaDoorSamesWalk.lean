/- The walk of RecordSames. -/
import Derived.Test.YtbleibmjippmpaaDoorLaw34
namespace Go.Proofs.YtbleibmjippmpaaDoor
open Go.RowKit

theorem below_next {w1 W wN : World} (hb : Below W.heap.size W wN) (h : Below w1.heap.size w1 W) : Below w1.heap.size w1 wN := h.trans (hb.mono h.size)
/-- The cells of a record in a block. -/
def Cells8 (w : World) (P : Nat) (u0 u1 u2 u3 u4 u5 u6 u7 : Value) : Prop :=
  w.cell? ⟨P, 0, none⟩ = some u0 ∧ w.cell? ⟨P, 1, none⟩ = some u1 ∧ w.cell? ⟨P, 2, none⟩ = some u2 ∧ w.cell? ⟨P, 3, none⟩ = some u3 ∧ w.cell? ⟨P, 4, none⟩ = some u4 ∧ w.cell? ⟨P, 5, none⟩ = some u5 ∧ w.cell? ⟨P, 6, none⟩ = some u6 ∧ w.cell? ⟨P, 7, none⟩ = some u7

set_option maxHeartbeats 4000000 in
set_option maxRecDepth 100000 in
theorem sames_any (r r' : Rc) (va vv vm vt va' vv' vm' vt' : Value) (w : World) (h : InAt w w.heap.size va vv vm vt r) (h' : InAt w w.heap.size va' vv' vm' vt' r') (aF : Addr) (hS : Sent w 0 aF) (hT : TabAt w) :
    Calls Tryd.prog 6 #[.agg (recV r va vv vm vt), .agg (recV r' va' vv' vm' vt')] w fun e w' => e = .returned (.bool true) ∧ Below w.heap.size w w' := by
  have hb := ((Below.refl w.heap.size w).alloc (Nat.le_refl _) (.cells (recV r va vv vm vt) 52)).alloc (by simp) (.cells (recV r' va' vv' vm' vt') 52)
  have H1 := Lib.hid (h.below hb)
  have H2 := Lib.hid (h'.below hb)
  have S0 := Lib.hid (hS.below hb)
  have T0 := Lib.hid (hT.below hb)
  have M1 := Lib.hid ((Whole.new w 52 (recV r va vv vm vt)).alloc (.cells (recV r' va' vv' vm' vt') 52))
  have hM2 := Whole.new (w.alloc (.cells (recV r va vv vm vt) 52)) 52 (recV r' va' vv' vm' vt')
  rw [World.size_alloc] at hM2
  have M2 := Lib.hid hM2
  have HB := Lib.hid hb
  obtain ⟨A1, k1, e1, _, _⟩ := h.act.form
  obtain ⟨A2, k2, e2, _, _⟩ := h.vars.form
  obtain ⟨A3, k3, e3, _, _⟩ := h.mem.form
  obtain ⟨A4, k4, e4, _, _⟩ := h.tms.form
  obtain ⟨A5, k5, e5, _, _⟩ := h'.act.form
  obtain ⟨A6, k6, e6, _, _⟩ := h'.vars.form
  obtain ⟨A7, k7, e7, _, _⟩ := h'.mem.form
  obtain ⟨A8, k8, e8, _, _⟩ := h'.tms.form
  subst e1 e2 e3 e4 e5 e6 e7 e8
  clear h h' hb hM2 hS hT
  simp only [recV] at *
  go_enter Tryd.func6, Tryd.ntmps6
  go_wp2_with fail
  refine (light_any r _ _ _ _ _ H1.out).mono ?_
  rintro e w1 ⟨rfl, hb1⟩
  have I1 := Lib.hid (H1.out.below hb1)
  have I2 := Lib.hid (H2.out.below hb1)
  have S1 := Lib.hid (S0.out.below hb1)
  have T1 := Lib.hid (T0.out.below hb1)
  have N1 := Lib.hid (M1.out.below hb1 (by simp; omega))
  have N2 := Lib.hid (M2.out.below hb1 (by simp))
  have B1 := Lib.hid (HB.out.trans (hb1.mono (by simp; omega)))
  clear hb1 H1 H2 S0 T0 M1 M2 HB
  obtain ⟨y0, y1, y2, y3, y4, y5, y6, y7⟩ := c8 N2.out
  cases hl1 : lightB r
  · go_wp2_with fail
    refine (awake34 _ aF S1.out T1.out).mono ?_
    rintro e w2 ⟨rfl, hb2⟩
    have B2 := Lib.hid (B1.out.trans (hb2.mono B1.out.size))
    clear hb2
    go_wp2_with fail
    go_ret
    exact ⟨rfl, B2.out⟩
  go_wp2_with fail
  refine (light_any r' _ _ _ _ _ I2.out).mono ?_
  rintro e w2 ⟨rfl, hb2⟩
  have J1 := Lib.hid (I1.out.below hb2)
  have J2 := Lib.hid (I2.out.below hb2)
  have S2 := Lib.hid (S1.out.below hb2)
  have T2 := Lib.hid (T1.out.below hb2)
  have O1 := Lib.hid (N1.out.below hb2 N1.out.lt)
  have O2 := Lib.hid (N2.out.below hb2 N2.out.lt)
  have B2 := Lib.hid (B1.out.trans (hb2.mono B1.out.size))
  clear hb2 I1 I2 S1 T1 N1 N2 B1 y0 y1 y2 y3 y4 y5 y6 y7
  cases hl2 : lightB r'
  · go_wp2_with fail
    refine (awake34 _ aF S2.out T2.out).mono ?_
    rintro e w3 ⟨rfl, hb3⟩
    have B3 := Lib.hid (B2.out.trans (hb3.mono B2.out.size))
    clear hb3
    go_wp2_with fail
    go_ret
    exact ⟨rfl, B3.out⟩
  clear hl1 hl2
  go_upto_region 3 with (fail)
  have hbD : Below w2.heap.size w2 w2.drew := (Below.refl _ _).drew
  have HSB : Hid (∀ w', Below w2.heap.size w2 w' → (w'.cell? ⟨w.heap.size, 0, none⟩ = some (.int .i64 r.chart) ∧ w'.cell? ⟨w.heap.size, 1, none⟩ = some (.int .i64 r.born) ∧ w'.cell? ⟨w.heap.size, 2, none⟩ = some (.int .i64 r.steps) ∧ w'.cell? ⟨w.heap.size, 3, none⟩ = some (.slice A1 r.active.length k1) ∧ w'.cell? ⟨w.heap.size, 4, none⟩ = some (.slice A2 r.vars.length k2) ∧ w'.cell? ⟨w.heap.size, 5, none⟩ = some (.slice A3 r.mem.length k3) ∧ w'.cell? ⟨w.heap.size, 6, none⟩ = some (.slice A4 r.timers.length k4) ∧ w'.cell? ⟨w.heap.size, 7, none⟩ = some (.bool r.over) ∧ w'.cell? ⟨w.heap.size + 1, 0, none⟩ = some (.int .i64 r'.chart) ∧ w'.cell? ⟨w.heap.size + 1, 1, none⟩ = some (.int .i64 r'.born) ∧ w'.cell? ⟨w.heap.size + 1, 2, none⟩ = some (.int .i64 r'.steps) ∧ w'.cell? ⟨w.heap.size + 1, 3, none⟩ = some (.slice A5 r'.active.length k5) ∧ w'.cell? ⟨w.heap.size + 1, 4, none⟩ = some (.slice A6 r'.vars.length k6) ∧ w'.cell? ⟨w.heap.size + 1, 5, none⟩ = some (.slice A7 r'.mem.length k7) ∧ w'.cell? ⟨w.heap.size + 1, 6, none⟩ = some (.slice A8 r'.timers.length k8) ∧ w'.cell? ⟨w.heap.size + 1, 7, none⟩ = some (.bool r'.over))) := Lib.hid (fun w' hw' => by
    obtain ⟨a0, a1, a2, a3, a4, a5, a6, a7⟩ := c8 (O1.out.below hw' O1.out.lt)
    exact ⟨a0, a1, a2, a3, a4, a5, a6, a7, c8 (O2.out.below hw' O2.out.lt)⟩)
  go_cut [4] (fun v4 W => v4 = .bool true ∧ Below w.heap.size w W)
  case first =>
    go_region_held3 (fun w' => w'.cell? ⟨w.heap.size, 0, none⟩ = some (.int .i64 r.chart) ∧ w'.cell? ⟨w.heap.size, 1, none⟩ = some (.int .i64 r.born) ∧ w'.cell? ⟨w.heap.size, 2, none⟩ = some (.int .i64 r.steps) ∧ w'.cell? ⟨w.heap.size, 3, none⟩ = some (.slice A1 r.active.length k1) ∧ w'.cell? ⟨w.heap.size, 4, none⟩ = some (.slice A2 r.vars.length k2) ∧ w'.cell? ⟨w.heap.size, 5, none⟩ = some (.slice A3 r.mem.length k3) ∧ w'.cell? ⟨w.heap.size, 6, none⟩ = some (.slice A4 r.timers.length k4) ∧ w'.cell? ⟨w.heap.size, 7, none⟩ = some (.bool r.over) ∧ w'.cell? ⟨w.heap.size + 1, 0, none⟩ = some (.int .i64 r'.chart) ∧ w'.cell? ⟨w.heap.size + 1, 1, none⟩ = some (.int .i64 r'.born) ∧ w'.cell? ⟨w.heap.size + 1, 2, none⟩ = some (.int .i64 r'.steps) ∧ w'.cell? ⟨w.heap.size + 1, 3, none⟩ = some (.slice A5 r'.active.length k5) ∧ w'.cell? ⟨w.heap.size + 1, 4, none⟩ = some (.slice A6 r'.vars.length k6) ∧ w'.cell? ⟨w.heap.size + 1, 5, none⟩ = some (.slice A7 r'.mem.length k7) ∧ w'.cell? ⟨w.heap.size + 1, 6, none⟩ = some (.slice A8 r'.timers.length k8) ∧ w'.cell? ⟨w.heap.size + 1, 7, none⟩ = some (.bool r'.over)) (exact HSB.out _ (by assumption))
      (first
        | (go_at_call 34; (with_reducible refine (of_any r _ _ _ _ _ (J1.out.below ?_)).mono ?_); (focus assumption); rintro e wn ⟨rfl, hbn⟩; have hbN := below_next hbn (by assumption); clear hbn)
        | (go_at_call 34; (with_reducible refine (of_any r' _ _ _ _ _ (J2.out.below ?_)).mono ?_); (focus assumption); rintro e wn ⟨rfl, hbn⟩; have hbN := below_next hbn (by assumption); clear hbn)
        | (go_at_call 35; (with_reducible refine (same_any r r' _ _ _ _ _ _ _ _ _ (J1.out.below ?_) (J2.out.below ?_)).mono ?_); (focus assumption); (focus assumption); rintro e wn ⟨rfl, hbn⟩; have hbN := below_next hbn (by assumption); clear hbn)
        | (go_at_call 35; (with_reducible refine (same_any r r _ _ _ _ _ _ _ _ _ (J1.out.below ?_) (J1.out.below ?_)).mono ?_); (focus assumption); (focus assumption); rintro e wn ⟨rfl, hbn⟩; have hbN := below_next hbn (by assumption); clear hbn; rw [sameRc_self])
        | (go_at_call 33; (with_reducible refine (rSame_any r r' _ _ _ _ _ _ _ _ _ (J1.out.below ?_) (J2.out.below ?_)).mono ?_); (focus assumption); (focus assumption); rintro e wn ⟨rfl, hbn⟩; have hbN := below_next hbn (by assumption); clear hbn)
        | (go_at_call 30; (with_reducible refine (awake34 _ aF (S2.out.below ?_) (T2.out.below ?_)).mono ?_); (focus assumption); (focus assumption); rintro e wn ⟨rfl, hbn⟩; have hbN := below_next hbn (by assumption); clear hbn))
    all_goals
      go_wp2_with fail
      go_meet
      exact ⟨rfl, B2.out.trans ((by assumption : Below w2.heap.size w2 _).mono B2.out.size)⟩
  case rest =>
    obtain ⟨rfl, hF⟩ := hcut
    have HF := Lib.hid hF
    clear hF
    go_wp2_with fail
    go_ret
    exact ⟨rfl, HF.out⟩
end Go.Proofs.YtbleibmjippmpaaDoor
