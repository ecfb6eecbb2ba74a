/- The walk of RecordBack. -/
import Derived.Test.YtbleibmjippmpaaDoorSamesWalk
import Derived.Test.YtbleibmjippmpaaDoorTake2
namespace Go.Proofs.YtbleibmjippmpaaDoor
open Go.RowKit

theorem recV_forms {w : World} {B : Nat} {va vv vm vt : Value} {r : Rc} (h : InAt w B va vv vm vt r) : ∃ A1 k1 A2 k2 A3 k3 A4 k4, va = .slice A1 r.active.length k1 ∧ vv = .slice A2 r.vars.length k2 ∧ vm = .slice A3 r.mem.length k3 ∧ vt = .slice A4 r.timers.length k4 := by
  obtain ⟨A1, k1, e1, _, _⟩ := h.act.form
  obtain ⟨A2, k2, e2, _, _⟩ := h.vars.form
  obtain ⟨A3, k3, e3, _, _⟩ := h.mem.form
  obtain ⟨A4, k4, e4, _, _⟩ := h.tms.form
  exact ⟨A1, k1, A2, k2, A3, k3, A4, k4, e1, e2, e3, e4⟩

set_option maxHeartbeats 4000000 in
set_option maxRecDepth 100000 in
theorem back_no (r : Rc) (va vv vm vt : Value) (A : Option Addr) (n c : Nat) (bs : List UInt8) (w : World) (h : InAt w w.heap.size va vv vm vt r) (hn : bs.length = n) (hcp : n ≤ c) (hr : Reads w w.heap.size 1 A n (bv bs)) (aF : Addr) (hS : Sent w 0 aF) (hT : TabAt w) (hR : rightB r = false) :
    Calls Tryd.prog 5 #[.agg (recV r va vv vm vt), .slice A n c] w fun e w' => e = .returned (.bool true) ∧ Below w.heap.size w w' := by
  obtain ⟨A1, k1, A2, k2, A3, k3, A4, k4, rfl, rfl, rfl, rfl⟩ := recV_forms h
  have hb := (Below.refl w.heap.size w).alloc (Nat.le_refl _) (.cells (recV r (.slice A1 r.active.length k1) (.slice A2 r.vars.length k2) (.slice A3 r.mem.length k3) (.slice A4 r.timers.length k4)) 52)
  have H1 := Lib.hid (h.below hb)
  have S0 := Lib.hid (hS.below hb)
  have T0 := Lib.hid (hT.below hb)
  have RB0 := Lib.hid ((hr.below hb).wider hb.size)
  have M0 := Lib.hid (Whole.new w 52 (recV r (.slice A1 r.active.length k1) (.slice A2 r.vars.length k2) (.slice A3 r.mem.length k3) (.slice A4 r.timers.length k4)))
  have HB := Lib.hid hb
  have hN := Lib.hid hn
  clear h hb hS hT hr hn
  simp only [recV] at *
  go_enter Tryd.func5, Tryd.ntmps5
  go_wp2_with fail
  refine (light_any r _ _ _ _ _ H1.out).mono ?_
  rintro e w1 ⟨rfl, hb1⟩
  have I1 := Lib.hid (H1.out.below hb1)
  have S1 := Lib.hid (S0.out.below hb1)
  have T1 := Lib.hid (T0.out.below hb1)
  have RB1 := Lib.hid ((RB0.out.below hb1).wider hb1.size)
  have N1 := Lib.hid (M0.out.below hb1 (by simp))
  have B1 := Lib.hid (HB.out.trans (hb1.mono (by simp)))
  clear hb1 H1 S0 T0 RB0 M0 HB
  cases hl1 : lightB r
  · clear hl1
    go_wp2_with fail
    refine (awake34 _ aF S1.out T1.out).mono ?_
    rintro e w2 ⟨rfl, hb2⟩
    have B2 := Lib.hid (B1.out.trans (hb2.mono B1.out.size))
    clear hb2
    go_wp2_with fail
    go_ret
    exact ⟨rfl, B2.out⟩
  by_cases h3 : ¬ n ≤ 3000
  · have h3 : (3000 : Int) < n := by omega
    go_wp2_with fail
    refine (awake34 _ aF S1.out T1.out).mono ?_
    rintro e w2 ⟨rfl, hb2⟩
    have B2 := Lib.hid (B1.out.trans (hb2.mono B1.out.size))
    clear hb2
    go_wp2_with fail
    go_ret
    exact ⟨rfl, B2.out⟩
  have h3 : n ≤ 3000 := by omega
  obtain ⟨x0, x1, x2, x3, x4, x5, x6, x7⟩ := c8 N1.out
  go_wp2_with fail
  refine (put_no r _ _ _ _ _ I1.out aF S1.out hR).mono ?_
  rintro e W2 ⟨E, rfl, hb2, hE⟩
  obtain ⟨te, ve, rfl⟩ := hE.form
  have S2 := Lib.hid (S1.out.below hb2)
  have T2 := Lib.hid (T1.out.below hb2)
  have RB2 := Lib.hid ((RB1.out.below hb2).wider hb2.size)
  have B2 := Lib.hid (B1.out.trans (hb2.mono B1.out.size))
  clear hb2 hE S1 T1 RB1 B1 I1 N1 x0 x1 x2 x3 x4 x5 x6 x7 hl1 hR

  -- the second half: world W2; S2, T2, B2, RB2
  go_wp2_with fail
  refine (get_any A n c bs _ hN.out RB2.out hcp (by omega) aF S2.out T2.out).mono ?_
  rintro e w3 ⟨ua, uv, um, ut, r2, E3, rfl, hb3, ho3, hk3⟩
  have hI3 := ho3.inAt
  obtain ⟨D1, j1, D2, j2, D3, j3, D4, j4, rfl, rfl, rfl, rfl⟩ := recV_forms hI3
  have I3 := Lib.hid (hI3.alloc (.cells (recV r2 (.slice D1 r2.active.length j1) (.slice D2 r2.vars.length j2) (.slice D3 r2.mem.length j3) (.slice D4 r2.timers.length j4)) 52))
  have hba := (Below.refl w3.heap.size w3).alloc (Nat.le_refl _) (.cells (recV r2 (.slice D1 r2.active.length j1) (.slice D2 r2.vars.length j2) (.slice D3 r2.mem.length j3) (.slice D4 r2.timers.length j4)) 52)
  have S3 := Lib.hid ((S2.out.below hb3).below hba)
  have T3 := Lib.hid ((T2.out.below hb3).below hba)
  have B3 := Lib.hid ((B2.out.trans (hb3.mono B2.out.size)).trans (hba.mono (by have := B2.out.size; have := hb3.size; omega)))
  have RB3 := Lib.hid ((((RB2.out.below hb3).wider hb3.size).below hba).wider hba.size)
  have K3 := Lib.hid hk3
  clear hb3 ho3 hI3 hba hk3 S2 T2 B2 RB2
  cases hg : getR bs with
  | none =>
    have hE : ∃ t v, E3 = .iface t v := by
      rcases K3.out with ⟨h, _⟩ | ⟨_, _, h⟩
      · rw [hg] at h; cases h
      · exact h.form
    obtain ⟨t3, v3, rfl⟩ := hE
    clear K3 hg
    go_wp2_with fail
    refine (awake34 _ aF S3.out T3.out).mono ?_
    rintro e w4 ⟨rfl, hb4⟩
    have B4 := Lib.hid (B3.out.trans (hb4.mono (by have := B3.out.size; exact this)))
    clear hb4
    go_wp2_with fail
    go_ret
    exact ⟨rfl, B4.out⟩
  | some r3 =>
    obtain ⟨rfl, rfl⟩ : r3 = r2 ∧ E3 = .nilIface := by
      rcases K3.out with ⟨h, h2⟩ | ⟨h, _⟩
      · rw [hg] at h; exact ⟨Option.some.inj h, h2⟩
      · rw [hg] at h; cases h
    obtain ⟨_, hr3, hbs3⟩ := getR_some hg
    have HR3 := Lib.hid hr3
    have HB3 := Lib.hid hbs3
    clear K3 hg hr3 hbs3
    go_wp2_with fail
    refine (put_yes r3 _ _ _ _ _ I3.out aF S3.out HR3.out).mono ?_
    rintro e w4 ⟨v4, rfl, hl4, hb4⟩
    obtain ⟨A4', c4', e4, _, _, hr4⟩ := hl4.one
    subst e4
    rw [HB3.out] at hr4
    have R4 := Lib.hid (show Reads w4 w4.heap.size 1 A4' n (bv bs) by rw [← hN.out]; exact hr4)
    have S4 := Lib.hid (S3.out.below hb4)
    have T4 := Lib.hid (T3.out.below hb4)
    have B4 := Lib.hid (B3.out.trans (hb4.mono (by have := B3.out.size; exact this)))
    have RB4 := Lib.hid ((RB3.out.below hb4).wider hb4.size)
    clear hl4 hb4 hr4 S3 T3 B3 RB3 I3
    rw [HB3.out, hN.out]
    go_wp2_with fail
    refine (sameBytes_yes A4' A n c4' c bs _ hN.out (by omega) R4.out RB4.out).mono ?_
    rintro e W5 ⟨rfl, kd, hW5⟩
    have hb5 := drew_below hW5
    have S5 := Lib.hid (S4.out.below hb5)
    have T5 := Lib.hid (T4.out.below hb5)
    have B5 := Lib.hid (B4.out.trans (hb5.mono B4.out.size))
    clear hb5 hW5 S4 T4 B4 RB4 R4
    go_wp2_with fail
    refine (awake34 _ aF S5.out T5.out).mono ?_
    rintro e w6 ⟨rfl, hb6⟩
    have B6 := Lib.hid (B5.out.trans (hb6.mono B5.out.size))
    clear hb6
    go_wp2_with fail
    go_ret
    exact ⟨rfl, B6.out⟩

set_option maxHeartbeats 4000000 in
set_option maxRecDepth 100000 in
theorem back_yes (r : Rc) (va vv vm vt : Value) (A : Option Addr) (n c : Nat) (bs : List UInt8) (w : World) (h : InAt w w.heap.size va vv vm vt r) (hn : bs.length = n) (hcp : n ≤ c) (hr : Reads w w.heap.size 1 A n (bv bs)) (aF : Addr) (hS : Sent w 0 aF) (hT : TabAt w) (hR : rightB r = true) :
    Calls Tryd.prog 5 #[.agg (recV r va vv vm vt), .slice A n c] w fun e w' => e = .returned (.bool true) ∧ Below w.heap.size w w' := by
  obtain ⟨A1, k1, A2, k2, A3, k3, A4, k4, rfl, rfl, rfl, rfl⟩ := recV_forms h
  have hb := (Below.refl w.heap.size w).alloc (Nat.le_refl _) (.cells (recV r (.slice A1 r.active.length k1) (.slice A2 r.vars.length k2) (.slice A3 r.mem.length k3) (.slice A4 r.timers.length k4)) 52)
  have H1 := Lib.hid (h.below hb)
  have S0 := Lib.hid (hS.below hb)
  have T0 := Lib.hid (hT.below hb)
  have RB0 := Lib.hid ((hr.below hb).wider hb.size)
  have M0 := Lib.hid (Whole.new w 52 (recV r (.slice A1 r.active.length k1) (.slice A2 r.vars.length k2) (.slice A3 r.mem.length k3) (.slice A4 r.timers.length k4)))
  have HB := Lib.hid hb
  have hN := Lib.hid hn
  clear h hb hS hT hr hn
  simp only [recV] at *
  go_enter Tryd.func5, Tryd.ntmps5
  go_wp2_with fail
  refine (light_any r _ _ _ _ _ H1.out).mono ?_
  rintro e w1 ⟨rfl, hb1⟩
  have I1 := Lib.hid (H1.out.below hb1)
  have S1 := Lib.hid (S0.out.below hb1)
  have T1 := Lib.hid (T0.out.below hb1)
  have RB1 := Lib.hid ((RB0.out.below hb1).wider hb1.size)
  have N1 := Lib.hid (M0.out.below hb1 (by simp))
  have B1 := Lib.hid (HB.out.trans (hb1.mono (by simp)))
  clear hb1 H1 S0 T0 RB0 M0 HB
  cases hl1 : lightB r
  · clear hl1
    go_wp2_with fail
    refine (awake34 _ aF S1.out T1.out).mono ?_
    rintro e w2 ⟨rfl, hb2⟩
    have B2 := Lib.hid (B1.out.trans (hb2.mono B1.out.size))
    clear hb2
    go_wp2_with fail
    go_ret
    exact ⟨rfl, B2.out⟩
  by_cases h3 : ¬ n ≤ 3000
  · have h3 : (3000 : Int) < n := by omega
    go_wp2_with fail
    refine (awake34 _ aF S1.out T1.out).mono ?_
    rintro e w2 ⟨rfl, hb2⟩
    have B2 := Lib.hid (B1.out.trans (hb2.mono B1.out.size))
    clear hb2
    go_wp2_with fail
    go_ret
    exact ⟨rfl, B2.out⟩
  have h3 : n ≤ 3000 := by omega
  obtain ⟨x0, x1, x2, x3, x4, x5, x6, x7⟩ := c8 N1.out
  go_wp2_with fail
  refine (put_yes r _ _ _ _ _ I1.out aF S1.out hR).mono ?_
  rintro e w5 ⟨v5, rfl, hl5, hb5⟩
  obtain ⟨A5, c5', e5, hc5, _, hr5⟩ := hl5.one
  subst e5
  have hfew := recBs_few hR
  have HRt := Lib.hid hR
  have J1 := Lib.hid (I1.out.below hb5)
  have S5 := Lib.hid (S1.out.below hb5)
  have T5 := Lib.hid (T1.out.below hb5)
  have RB5 := Lib.hid ((RB1.out.below hb5).wider hb5.size)
  have N5 := Lib.hid (N1.out.below hb5 N1.out.lt)
  have B5 := Lib.hid (B1.out.trans (hb5.mono B1.out.size))
  have R5 := Lib.hid (show Reads w5 w5.heap.size 1 A5 (recBs r).length (bv (recBs r)) from hr5)
  clear hb5 hl5 hr5 S1 T1 RB1 B1 I1 N1 x0 x1 x2 x3 x4 x5 x6 x7 hl1 hR
  go_wp2_with fail
  refine (get_any A5 _ c5' (recBs r) _ rfl R5.out hc5 hfew aF S5.out T5.out).mono ?_
  rintro e w6 ⟨da, dv, dm, dt, r6, E6, rfl, hb6, ho6, hk6⟩
  rw [getR_back r HRt.out] at hk6
  obtain ⟨rfl, rfl⟩ : r = r6 ∧ E6 = .nilIface := by
    rcases hk6 with ⟨h1, h2⟩ | ⟨h1, _⟩
    · exact ⟨Option.some.inj h1, h2⟩
    · cases h1
  have hI6 := ho6.inAt
  obtain ⟨D1, j1, D2, j2, D3, j3, D4, j4, rfl, rfl, rfl, rfl⟩ := recV_forms hI6
  have hba := (Below.refl w6.heap.size w6).alloc (Nat.le_refl _) (.cells (recV r (.slice D1 r.active.length j1) (.slice D2 r.vars.length j2) (.slice D3 r.mem.length j3) (.slice D4 r.timers.length j4)) 52)
  have J6 := Lib.hid ((J1.out.below hb6).below hba)
  have Q6 := Lib.hid (hI6.below hba)
  have S6 := Lib.hid ((S5.out.below hb6).below hba)
  have T6 := Lib.hid ((T5.out.below hb6).below hba)
  have RB6 := Lib.hid ((((RB5.out.below hb6).wider hb6.size).below hba).wider hba.size)
  have N6 := Lib.hid ((N5.out.below hb6 N5.out.lt).alloc (.cells (recV r (.slice D1 r.active.length j1) (.slice D2 r.vars.length j2) (.slice D3 r.mem.length j3) (.slice D4 r.timers.length j4)) 52))
  have P6 := Lib.hid (Whole.new w6 52 (recV r (.slice D1 r.active.length j1) (.slice D2 r.vars.length j2) (.slice D3 r.mem.length j3) (.slice D4 r.timers.length j4)))
  have B6 := Lib.hid ((B5.out.trans (hb6.mono B5.out.size)).trans (hba.mono (by have := B5.out.size; have := hb6.size; omega)))
  have hlt6 : w.heap.size < w6.heap.size := (N5.out.below hb6 N5.out.lt).lt
  clear hb6 ho6 hk6 hI6 hba S5 T5 RB5 N5 B5 R5 J1
  simp only [recV] at *
  go_upto_region 6 with (fail)
  have FA : Hid (∀ W', Below (w6.alloc (.cells #[.int .i64 r.chart, .int .i64 r.born, .int .i64 r.steps, (.slice D1 r.active.length j1), (.slice D2 r.vars.length j2), (.slice D3 r.mem.length j3), (.slice D4 r.timers.length j4), .bool r.over] 52)).heap.size (w6.alloc (.cells #[.int .i64 r.chart, .int .i64 r.born, .int .i64 r.steps, (.slice D1 r.active.length j1), (.slice D2 r.vars.length j2), (.slice D3 r.mem.length j3), (.slice D4 r.timers.length j4), .bool r.over] 52)) W' → InAt W' W'.heap.size (.slice A1 r.active.length k1) (.slice A2 r.vars.length k2) (.slice A3 r.mem.length k3) (.slice A4 r.timers.length k4) r ∧ InAt W' W'.heap.size (.slice D1 r.active.length j1) (.slice D2 r.vars.length j2) (.slice D3 r.mem.length j3) (.slice D4 r.timers.length j4) r ∧ Sent W' 0 aF ∧ TabAt W' ∧ Reads W' W'.heap.size 1 A n (bv bs) ∧ Below w.heap.size w W' ∧ Whole W' w.heap.size 52 #[.int .i64 r.chart, .int .i64 r.born, .int .i64 r.steps, (.slice A1 r.active.length k1), (.slice A2 r.vars.length k2), (.slice A3 r.mem.length k3), (.slice A4 r.timers.length k4), .bool r.over] ∧ Whole W' w6.heap.size 52 #[.int .i64 r.chart, .int .i64 r.born, .int .i64 r.steps, (.slice D1 r.active.length j1), (.slice D2 r.vars.length j2), (.slice D3 r.mem.length j3), (.slice D4 r.timers.length j4), .bool r.over]) := Lib.hid (fun W' hw => ⟨J6.out.below hw, Q6.out.below hw, S6.out.below hw, T6.out.below hw, (RB6.out.below hw).wider hw.size, B6.out.trans (hw.mono (by have := B6.out.size; exact this)), N6.out.below hw N6.out.lt, P6.out.below hw P6.out.lt⟩)
  clear J6 Q6 S6 T6 RB6 N6 P6 B6
  generalize w6.alloc (.cells #[.int .i64 r.chart, .int .i64 r.born, .int .i64 r.steps, (.slice D1 r.active.length j1), (.slice D2 r.vars.length j2), (.slice D3 r.mem.length j3), (.slice D4 r.timers.length j4), .bool r.over] 52) = w7 at *
  have HSB : Hid (∀ w', Below w7.heap.size w7 w' → (w'.cell? ⟨w.heap.size, 0, none⟩ = some (.int .i64 r.chart) ∧ w'.cell? ⟨w.heap.size, 1, none⟩ = some (.int .i64 r.born) ∧ w'.cell? ⟨w.heap.size, 2, none⟩ = some (.int .i64 r.steps) ∧ w'.cell? ⟨w.heap.size, 3, none⟩ = some (.slice A1 r.active.length k1) ∧ w'.cell? ⟨w.heap.size, 4, none⟩ = some (.slice A2 r.vars.length k2) ∧ w'.cell? ⟨w.heap.size, 5, none⟩ = some (.slice A3 r.mem.length k3) ∧ w'.cell? ⟨w.heap.size, 6, none⟩ = some (.slice A4 r.timers.length k4) ∧ w'.cell? ⟨w.heap.size, 7, none⟩ = some (.bool r.over) ∧ w'.cell? ⟨w6.heap.size, 0, none⟩ = some (.int .i64 r.chart) ∧ w'.cell? ⟨w6.heap.size, 1, none⟩ = some (.int .i64 r.born) ∧ w'.cell? ⟨w6.heap.size, 2, none⟩ = some (.int .i64 r.steps) ∧ w'.cell? ⟨w6.heap.size, 3, none⟩ = some (.slice D1 r.active.length j1) ∧ w'.cell? ⟨w6.heap.size, 4, none⟩ = some (.slice D2 r.vars.length j2) ∧ w'.cell? ⟨w6.heap.size, 5, none⟩ = some (.slice D3 r.mem.length j3) ∧ w'.cell? ⟨w6.heap.size, 6, none⟩ = some (.slice D4 r.timers.length j4) ∧ w'.cell? ⟨w6.heap.size, 7, none⟩ = some (.bool r.over))) := Lib.hid (fun w' hw' => by
    obtain ⟨_, _, _, _, _, _, f1, f2⟩ := FA.out w' hw'
    obtain ⟨a0, a1, a2, a3, a4, a5, a6, a7⟩ := c8 f1
    exact ⟨a0, a1, a2, a3, a4, a5, a6, a7, c8 f2⟩)
  have hbD : Below w7.heap.size w7 w7.drew := (Below.refl _ _).drew
  go_cut [49] (fun v49 W => v49 = .bool false ∧ Below w7.heap.size w7 W)
  case first =>
    go_region_held3 (fun w' => w'.cell? ⟨w.heap.size, 0, none⟩ = some (.int .i64 r.chart) ∧ w'.cell? ⟨w.heap.size, 1, none⟩ = some (.int .i64 r.born) ∧ w'.cell? ⟨w.heap.size, 2, none⟩ = some (.int .i64 r.steps) ∧ w'.cell? ⟨w.heap.size, 3, none⟩ = some (.slice A1 r.active.length k1) ∧ w'.cell? ⟨w.heap.size, 4, none⟩ = some (.slice A2 r.vars.length k2) ∧ w'.cell? ⟨w.heap.size, 5, none⟩ = some (.slice A3 r.mem.length k3) ∧ w'.cell? ⟨w.heap.size, 6, none⟩ = some (.slice A4 r.timers.length k4) ∧ w'.cell? ⟨w.heap.size, 7, none⟩ = some (.bool r.over) ∧ w'.cell? ⟨w6.heap.size, 0, none⟩ = some (.int .i64 r.chart) ∧ w'.cell? ⟨w6.heap.size, 1, none⟩ = some (.int .i64 r.born) ∧ w'.cell? ⟨w6.heap.size, 2, none⟩ = some (.int .i64 r.steps) ∧ w'.cell? ⟨w6.heap.size, 3, none⟩ = some (.slice D1 r.active.length j1) ∧ w'.cell? ⟨w6.heap.size, 4, none⟩ = some (.slice D2 r.vars.length j2) ∧ w'.cell? ⟨w6.heap.size, 5, none⟩ = some (.slice D3 r.mem.length j3) ∧ w'.cell? ⟨w6.heap.size, 6, none⟩ = some (.slice D4 r.timers.length j4) ∧ w'.cell? ⟨w6.heap.size, 7, none⟩ = some (.bool r.over)) (exact HSB.out _ (by assumption))
      (first
        | (go_at_call 34; (with_reducible refine (of_any r (.slice A1 r.active.length k1) (.slice A2 r.vars.length k2) (.slice A3 r.mem.length k3) (.slice A4 r.timers.length k4) _ (FA.out _ ?_).1).mono ?_); (focus assumption); rintro e wn ⟨rfl, hbn⟩; have hbN := below_next hbn (by assumption); clear hbn)
        | (go_at_call 34; (with_reducible refine (of_any r (.slice D1 r.active.length j1) (.slice D2 r.vars.length j2) (.slice D3 r.mem.length j3) (.slice D4 r.timers.length j4) _ (FA.out _ ?_).2.1).mono ?_); (focus assumption); rintro e wn ⟨rfl, hbn⟩; have hbN := below_next hbn (by assumption); clear hbn)
        | (go_at_call 35; (with_reducible refine (same_any r r _ _ _ _ _ _ _ _ _ (FA.out _ ?_).2.1 (FA.out _ ?_).1).mono ?_); (focus assumption); (focus assumption); rintro e wn ⟨rfl, hbn⟩; have hbN := below_next hbn (by assumption); clear hbn; rw [sameRc_self])
        | (go_at_call 33; (with_reducible refine (rSame_any r r _ _ _ _ _ _ _ _ _ (FA.out _ ?_).2.1 (FA.out _ ?_).1).mono ?_); (focus assumption); (focus assumption); rintro e wn ⟨rfl, hbn⟩; have hbN := below_next hbn (by assumption); clear hbn; rw [sameRc_self]))
    all_goals
      go_wp2_with fail
      go_meet
      exact ⟨rfl, by assumption⟩
  case rest =>
  obtain ⟨rfl, hF⟩ := hcut
  obtain ⟨_, _, f3, f4, f5, f6, _, _⟩ := FA.out _ hF
  have S2 := Lib.hid f3
  have T2 := Lib.hid f4
  have RB2 := Lib.hid f5
  have B2 := Lib.hid f6
  clear hF f3 f4 f5 f6 FA HSB hbD

  -- the second half: world W2; S2, T2, B2, RB2
  go_wp2_with fail
  refine (get_any A n c bs _ hN.out RB2.out hcp (by omega) aF S2.out T2.out).mono ?_
  rintro e w3 ⟨ua, uv, um, ut, r2, E3, rfl, hb3, ho3, hk3⟩
  have hI3 := ho3.inAt
  obtain ⟨D1, j1, D2, j2, D3, j3, D4, j4, rfl, rfl, rfl, rfl⟩ := recV_forms hI3
  have I3 := Lib.hid (hI3.alloc (.cells (recV r2 (.slice D1 r2.active.length j1) (.slice D2 r2.vars.length j2) (.slice D3 r2.mem.length j3) (.slice D4 r2.timers.length j4)) 52))
  have hba := (Below.refl w3.heap.size w3).alloc (Nat.le_refl _) (.cells (recV r2 (.slice D1 r2.active.length j1) (.slice D2 r2.vars.length j2) (.slice D3 r2.mem.length j3) (.slice D4 r2.timers.length j4)) 52)
  have S3 := Lib.hid ((S2.out.below hb3).below hba)
  have T3 := Lib.hid ((T2.out.below hb3).below hba)
  have B3 := Lib.hid ((B2.out.trans (hb3.mono B2.out.size)).trans (hba.mono (by have := B2.out.size; have := hb3.size; omega)))
  have RB3 := Lib.hid ((((RB2.out.below hb3).wider hb3.size).below hba).wider hba.size)
  have K3 := Lib.hid hk3
  clear hb3 ho3 hI3 hba hk3 S2 T2 B2 RB2
  cases hg : getR bs with
  | none =>
    have hE : ∃ t v, E3 = .iface t v := by
      rcases K3.out with ⟨h, _⟩ | ⟨_, _, h⟩
      · rw [hg] at h; cases h
      · exact h.form
    obtain ⟨t3, v3, rfl⟩ := hE
    clear K3 hg
    go_wp2_with fail
    refine (awake34 _ aF S3.out T3.out).mono ?_
    rintro e w4 ⟨rfl, hb4⟩
    have B4 := Lib.hid (B3.out.trans (hb4.mono (by have := B3.out.size; exact this)))
    clear hb4
    go_wp2_with fail
    go_ret
    exact ⟨rfl, B4.out⟩
  | some r3 =>
    obtain ⟨rfl, rfl⟩ : r3 = r2 ∧ E3 = .nilIface := by
      rcases K3.out with ⟨h, h2⟩ | ⟨h, _⟩
      · rw [hg] at h; exact ⟨Option.some.inj h, h2⟩
      · rw [hg] at h; cases h
    obtain ⟨_, hr3, hbs3⟩ := getR_some hg
    have HR3 := Lib.hid hr3
    have HB3 := Lib.hid hbs3
    clear K3 hg hr3 hbs3
    go_wp2_with fail
    refine (put_yes r3 _ _ _ _ _ I3.out aF S3.out HR3.out).mono ?_
    rintro e w4 ⟨v4, rfl, hl4, hb4⟩
    obtain ⟨A4', c4', e4, _, _, hr4⟩ := hl4.one
    subst e4
    rw [HB3.out] at hr4
    have R4 := Lib.hid (show Reads w4 w4.heap.size 1 A4' n (bv bs) by rw [← hN.out]; exact hr4)
    have S4 := Lib.hid (S3.out.below hb4)
    have T4 := Lib.hid (T3.out.below hb4)
    have B4 := Lib.hid (B3.out.trans (hb4.mono (by have := B3.out.size; exact this)))
    have RB4 := Lib.hid ((RB3.out.below hb4).wider hb4.size)
    clear hl4 hb4 hr4 S3 T3 B3 RB3 I3
    rw [HB3.out, hN.out]
    go_wp2_with fail
    refine (sameBytes_yes A4' A n c4' c bs _ hN.out (by omega) R4.out RB4.out).mono ?_
    rintro e W5 ⟨rfl, kd, hW5⟩
    have hb5 := drew_below hW5
    have S5 := Lib.hid (S4.out.below hb5)
    have T5 := Lib.hid (T4.out.below hb5)
    have B5 := Lib.hid (B4.out.trans (hb5.mono B4.out.size))
    clear hb5 hW5 S4 T4 B4 RB4 R4
    go_wp2_with fail
    refine (awake34 _ aF S5.out T5.out).mono ?_
    rintro e w6 ⟨rfl, hb6⟩
    have B6 := Lib.hid (B5.out.trans (hb6.mono B5.out.size))
    clear hb6
    go_wp2_with fail
    go_ret
    exact ⟨rfl, B6.out⟩

/-- RecordBack returns true. -/
theorem back_any (r : Rc) (va vv vm vt : Value) (A : Option Addr) (n c : Nat) (bs : List UInt8) (w : World) (h : InAt w w.heap.size va vv vm vt r) (hn : bs.length = n) (hcp : n ≤ c) (hr : Reads w w.heap.size 1 A n (bv bs)) (aF : Addr) (hS : Sent w 0 aF) (hT : TabAt w) :
    Calls Tryd.prog 5 #[.agg (recV r va vv vm vt), .slice A n c] w fun e w' => e = .returned (.bool true) ∧ Below w.heap.size w w' := by
  cases hR : rightB r
  · exact back_no r va vv vm vt A n c bs w h hn hcp hr aF hS hT hR
  · exact back_yes r va vv vm vt A n c bs w h hn hcp hr aF hS hT hR
end Go.Proofs.YtbleibmjippmpaaDoor
