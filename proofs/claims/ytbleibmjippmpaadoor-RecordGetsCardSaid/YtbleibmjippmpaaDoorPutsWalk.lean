/- The walk of RecordPuts. -/
import Derived.Test.YtbleibmjippmpaaDoorLaw34
import Derived.Test.YtbleibmjippmpaaDoorCB
import Derived.Test.YtbleibmjippmpaaDoorTells34
import Derived.Test.YtbleibmjippmpaaDoorTake2
namespace Go.Proofs.YtbleibmjippmpaaDoor
open Go.RowKit

theorem rec_forms {w : World} {B : Nat} {va vv vm vt : Value} {r : Rc} (h : InAt w B va vv vm vt r) : ∃ A1 k1 A2 k2 A3 k3 A4 k4, va = .slice A1 r.active.length k1 ∧ vv = .slice A2 r.vars.length k2 ∧ vm = .slice A3 r.mem.length k3 ∧ vt = .slice A4 r.timers.length k4 := by
  obtain ⟨A1, k1, e1, _, _⟩ := h.act.form
  obtain ⟨A2, k2, e2, _, _⟩ := h.vars.form
  obtain ⟨A3, k3, e3, _, _⟩ := h.mem.form
  obtain ⟨A4, k4, e4, _, _⟩ := h.tms.form
  exact ⟨A1, k1, A2, k2, A3, k3, A4, k4, e1, e2, e3, e4⟩
theorem light_lite {r : Rc} (h : lightB r = true) : Lite r := by
  unfold lightB at h
  simp only [Bool.and_eq_true, decide_eq_true_eq] at h
  obtain ⟨⟨⟨⟨h1, h2⟩, h3⟩, h4⟩, h5⟩ := h
  refine ⟨by omega, by omega, by omega, by omega, fun m hm => ?_⟩
  obtain ⟨j, hj, e⟩ := mem_getD (0, []) hm
  have := allB_at h5 j hj
  rw [e] at this
  have := of_decide_eq_true this
  omega
set_option maxHeartbeats 1000000 in
theorem most_any (w : World) : Calls Tryd.prog 41 #[] w fun e w' => e = .returned (.int .i64 558) ∧ w = w' := by
  go_enter Tryd.func41, Tryd.ntmps41
  go_wp2_with fail
  go_ret
  exact ⟨rfl, rfl⟩

set_option maxHeartbeats 4000000 in
set_option maxRecDepth 100000 in
theorem puts_no (r : Rc) (va vv vm vt : Value) (w : World) (h : InAt w w.heap.size va vv vm vt r) (ad : Nat → Addr) (hS : Sents w ad) (hT : TabAt w) (hR : rightB r = false) :
    Calls Tryd.prog 8 #[.agg (recV r va vv vm vt)] w fun e w' => e = .returned (.bool true) ∧ Below w.heap.size w w' := by
  obtain ⟨A1, k1, A2, k2, A3, k3, A4, k4, rfl, rfl, rfl, rfl⟩ := rec_forms h
  have hb := (Below.refl w.heap.size w).alloc (Nat.le_refl _) (.cells (recV r (.slice A1 r.active.length k1) (.slice A2 r.vars.length k2) (.slice A3 r.mem.length k3) (.slice A4 r.timers.length k4)) 52)
  have H1 := Lib.hid (h.below hb)
  have S0 := Lib.hid (hS.below hb)
  have T0 := Lib.hid (hT.below hb)
  have M0 := Lib.hid (Whole.new w 52 (recV r (.slice A1 r.active.length k1) (.slice A2 r.vars.length k2) (.slice A3 r.mem.length k3) (.slice A4 r.timers.length k4)))
  have HB := Lib.hid hb
  clear h hb hS hT
  simp only [recV] at *
  go_enter Tryd.func8, Tryd.ntmps8
  go_wp2_with fail
  refine (light_any r _ _ _ _ _ H1.out).mono ?_
  rintro e w1 ⟨rfl, hb1⟩
  have I1 := Lib.hid (H1.out.below hb1)
  have S1 := Lib.hid (S0.out.below hb1)
  have T1 := Lib.hid (T0.out.below hb1)
  have N1 := Lib.hid (M0.out.below hb1 (by simp))
  have B1 := Lib.hid (HB.out.trans (hb1.mono (by simp)))
  clear hb1 H1 S0 T0 M0 HB
  cases hl1 : lightB r
  · clear hl1
    go_wp2_with fail
    refine (awake34 _ (ad 1) S1.out.s1 T1.out).mono ?_
    rintro e w2 ⟨rfl, hb2⟩
    have B2 := Lib.hid (B1.out.trans (hb2.mono B1.out.size))
    clear hb2
    go_wp2_with fail
    go_ret
    exact ⟨rfl, B2.out⟩
  have L1 := Lib.hid (light_lite hl1)
  clear hl1
  obtain ⟨x0, x1, x2, x3, x4, x5, x6, x7⟩ := c8 N1.out
  go_wp2_with fail
  refine (put_no r _ _ _ _ _ I1.out (ad 1) S1.out.s1 hR).mono ?_
  rintro e w2 ⟨E, rfl, hb2, hE⟩
  obtain ⟨te, ve, rfl⟩ := hE.form
  have E2 := Lib.hid hE
  have I2 := Lib.hid (I1.out.below hb2)
  have S2 := Lib.hid (S1.out.below hb2)
  have T2 := Lib.hid (T1.out.below hb2)
  have N2 := Lib.hid (N1.out.below hb2 N1.out.lt)
  have B2 := Lib.hid (B1.out.trans (hb2.mono B1.out.size))
  clear hb2 hE S1 T1 B1 I1 N1 x0 x1 x2 x3 x4 x5 x6 x7
  obtain ⟨x0, x1, x2, x3, x4, x5, x6, x7⟩ := c8 N2.out
  go_wp2_with fail
  refine (of_any r _ _ _ _ _ I2.out).mono ?_
  rintro e w3 ⟨rfl, hb3⟩
  have E3 := Lib.hid (E2.out.below hb3)
  have I3 := Lib.hid (I2.out.below hb3)
  have S3 := Lib.hid (S2.out.below hb3)
  have T3 := Lib.hid (T2.out.below hb3)
  have N3 := Lib.hid (N2.out.below hb3 N2.out.lt)
  have B3 := Lib.hid (B2.out.trans (hb3.mono B2.out.size))
  clear hb3 E2 S2 T2 B2 I2 N2 x0 x1 x2 x3 x4 x5 x6 x7
  go_wp2_with fail
  refine (cRight34 r L1.out _ _ _ _ _ I3.out).mono ?_
  rintro e w4 ⟨rfl, hb4⟩
  rw [hR]
  have E4 := Lib.hid (E3.out.below hb4)
  have I4 := Lib.hid (I3.out.below hb4)
  have S4 := Lib.hid (S3.out.below hb4)
  have T4 := Lib.hid (T3.out.below hb4)
  have N4 := Lib.hid (N3.out.below hb4 N3.out.lt)
  have B4 := Lib.hid (B3.out.trans (hb4.mono B3.out.size))
  clear hb4 E3 S3 T3 B3 I3 N3
  obtain ⟨x0, x1, x2, x3, x4, x5, x6, x7⟩ := c8 N4.out
  go_wp2_with fail
  refine (tells34_err S4.out 1 ⟨Nat.le_refl _, by omega⟩ 2 _ E4.out 1 rfl).mono ?_
  rintro e w4' ⟨rfl, rfl⟩
  go_wp2_with fail
  refine (check_any r _ _ _ _ _ I4.out (ad 1) S4.out.s1).mono ?_
  rintro e w5 ⟨F, rfl, hb5, hF⟩
  have hF : ErrAt w5 (ad 1) 1 F := by
    rcases hF with ⟨h, _⟩ | ⟨_, h⟩
    · rw [hR] at h; cases h
    · exact h
  obtain ⟨tf, vf, rfl⟩ := hF.form
  have F5 := Lib.hid hF
  have S5 := Lib.hid (S4.out.below hb5)
  have T5 := Lib.hid (T4.out.below hb5)
  have B5 := Lib.hid (B4.out.trans (hb5.mono B4.out.size))
  clear hb5 hF E4 S4 T4 B4 I4 N4 x0 x1 x2 x3 x4 x5 x6 x7
  go_wp2_with fail
  refine (tells34_err S5.out 1 ⟨Nat.le_refl _, by omega⟩ 1 _ F5.out 1 rfl).mono ?_
  rintro e w5' ⟨rfl, rfl⟩
  go_wp2_with fail
  refine (awake34 _ (ad 1) S5.out.s1 T5.out).mono ?_
  rintro e w6 ⟨rfl, hb6⟩
  have B6 := Lib.hid (B5.out.trans (hb6.mono B5.out.size))
  clear hb6
  go_wp2_with fail
  go_ret
  exact ⟨rfl, B6.out⟩

set_option maxHeartbeats 4000000 in
set_option maxRecDepth 100000 in
theorem puts_yes (r : Rc) (va vv vm vt : Value) (w : World) (h : InAt w w.heap.size va vv vm vt r) (ad : Nat → Addr) (hS : Sents w ad) (hT : TabAt w) (hR : rightB r = true) :
    Calls Tryd.prog 8 #[.agg (recV r va vv vm vt)] w fun e w' => e = .returned (.bool true) ∧ Below w.heap.size w w' := by
  obtain ⟨A1, k1, A2, k2, A3, k3, A4, k4, rfl, rfl, rfl, rfl⟩ := rec_forms h
  have hb := (Below.refl w.heap.size w).alloc (Nat.le_refl _) (.cells (recV r (.slice A1 r.active.length k1) (.slice A2 r.vars.length k2) (.slice A3 r.mem.length k3) (.slice A4 r.timers.length k4)) 52)
  have H1 := Lib.hid (h.below hb)
  have S0 := Lib.hid (hS.below hb)
  have T0 := Lib.hid (hT.below hb)
  have M0 := Lib.hid (Whole.new w 52 (recV r (.slice A1 r.active.length k1) (.slice A2 r.vars.length k2) (.slice A3 r.mem.length k3) (.slice A4 r.timers.length k4)))
  have HB := Lib.hid hb
  clear h hb hS hT
  simp only [recV] at *
  go_enter Tryd.func8, Tryd.ntmps8
  go_wp2_with fail
  refine (light_any r _ _ _ _ _ H1.out).mono ?_
  rintro e w1 ⟨rfl, hb1⟩
  have I1 := Lib.hid (H1.out.below hb1)
  have S1 := Lib.hid (S0.out.below hb1)
  have T1 := Lib.hid (T0.out.below hb1)
  have N1 := Lib.hid (M0.out.below hb1 (by simp))
  have B1 := Lib.hid (HB.out.trans (hb1.mono (by simp)))
  clear hb1 H1 S0 T0 M0 HB
  cases hl1 : lightB r
  · clear hl1
    go_wp2_with fail
    refine (awake34 _ (ad 1) S1.out.s1 T1.out).mono ?_
    rintro e w2 ⟨rfl, hb2⟩
    have B2 := Lib.hid (B1.out.trans (hb2.mono B1.out.size))
    clear hb2
    go_wp2_with fail
    go_ret
    exact ⟨rfl, B2.out⟩
  have L1 := Lib.hid (light_lite hl1)
  clear hl1
  obtain ⟨x0, x1, x2, x3, x4, x5, x6, x7⟩ := c8 N1.out
  go_wp2_with fail
  refine (put_yes r _ _ _ _ _ I1.out (ad 1) S1.out.s1 hR).mono ?_
  rintro e w2 ⟨v2, rfl, hl2, hb2⟩
  obtain ⟨D2, d2, e2, hd2, _, hr2⟩ := hl2.one
  subst e2
  have hmost := recBs_most hR
  obtain ⟨N, hN⟩ : ∃ N, (recBs r).length = N := ⟨_, rfl⟩
  rw [hN] at hd2 hr2 hmost
  rw [hN]
  have R2 := Lib.hid (show Reads w2 w2.heap.size 1 D2 N (bv (recBs r)) from hr2)
  have HN := Lib.hid hN
  have I2 := Lib.hid (I1.out.below hb2)
  have S2 := Lib.hid (S1.out.below hb2)
  have T2 := Lib.hid (T1.out.below hb2)
  have N2 := Lib.hid (N1.out.below hb2 N1.out.lt)
  have B2 := Lib.hid (B1.out.trans (hb2.mono B1.out.size))
  clear hb2 hl2 hr2 hN S1 T1 B1 I1 N1 x0 x1 x2 x3 x4 x5 x6 x7
  obtain ⟨x0, x1, x2, x3, x4, x5, x6, x7⟩ := c8 N2.out
  go_wp2_with fail
  refine (of_any r _ _ _ _ _ I2.out).mono ?_
  rintro e w3 ⟨rfl, hb3⟩
  have R3 := Lib.hid ((R2.out.below hb3).wider hb3.size)
  have I3 := Lib.hid (I2.out.below hb3)
  have S3 := Lib.hid (S2.out.below hb3)
  have T3 := Lib.hid (T2.out.below hb3)
  have N3 := Lib.hid (N2.out.below hb3 N2.out.lt)
  have B3 := Lib.hid (B2.out.trans (hb3.mono B2.out.size))
  clear hb3 R2 S2 T2 B2 I2 N2 x0 x1 x2 x3 x4 x5 x6 x7
  go_wp2_with fail
  refine (cRight34 r L1.out _ _ _ _ _ I3.out).mono ?_
  rintro e w4 ⟨rfl, hb4⟩
  rw [hR]
  have R4 := Lib.hid ((R3.out.below hb4).wider hb4.size)
  have I4 := Lib.hid (I3.out.below hb4)
  have S4 := Lib.hid (S3.out.below hb4)
  have T4 := Lib.hid (T3.out.below hb4)
  have N4 := Lib.hid (N3.out.below hb4 N3.out.lt)
  have B4 := Lib.hid (B3.out.trans (hb4.mono B3.out.size))
  clear hb4 R3 S3 T3 B3 I3 N3
  obtain ⟨x0, x1, x2, x3, x4, x5, x6, x7⟩ := c8 N4.out
  go_wp2_with fail
  refine (check_any r _ _ _ _ _ I4.out (ad 1) S4.out.s1).mono ?_
  rintro e w5 ⟨F, rfl, hb5, hF⟩
  obtain rfl : F = .nilIface := by
    rcases hF with ⟨_, h⟩ | ⟨h, _⟩
    · exact h
    · rw [hR] at h; cases h
  have R5 := Lib.hid ((R4.out.below hb5).wider hb5.size)
  have I5 := Lib.hid (I4.out.below hb5)
  have S5 := Lib.hid (S4.out.below hb5)
  have T5 := Lib.hid (T4.out.below hb5)
  have N5 := Lib.hid (N4.out.below hb5 N4.out.lt)
  have B5 := Lib.hid (B4.out.trans (hb5.mono B4.out.size))
  clear hb5 hF R4 S4 T4 B4 I4 N4 x0 x1 x2 x3 x4 x5 x6 x7
  obtain ⟨x0, x1, x2, x3, x4, x5, x6, x7⟩ := c8 N5.out
  go_wp2_with fail
  refine (of_any r _ _ _ _ _ I5.out).mono ?_
  rintro e w6 ⟨rfl, hb6⟩
  have R6 := Lib.hid ((R5.out.below hb6).wider hb6.size)
  have I6 := Lib.hid (I5.out.below hb6)
  have S6 := Lib.hid (S5.out.below hb6)
  have T6 := Lib.hid (T5.out.below hb6)
  have B6 := Lib.hid (B5.out.trans (hb6.mono B5.out.size))
  clear hb6 R5 S5 T5 B5 I5 N5 x0 x1 x2 x3 x4 x5 x6 x7
  go_wp2_with fail
  refine (cPut34 r hR _ _ _ _ _ I6.out).mono ?_
  rintro e w7 ⟨G, g, rfl, hb7, hr7⟩
  have R7 := Lib.hid ((R6.out.below hb7).wider hb7.size)
  have Q7 := Lib.hid (show Reads w7 w7.heap.size 1 G N (bv (recBs r)) by rw [← HN.out]; exact hr7)
  have S7 := Lib.hid (S6.out.below hb7)
  have T7 := Lib.hid (T6.out.below hb7)
  have B7 := Lib.hid (B6.out.trans (hb7.mono B6.out.size))
  clear hb7 hr7 R6 S6 T6 B6 I6
  rw [HN.out]
  go_wp2_with fail
  refine (sameBytes_yes D2 G N d2 g (recBs r) _ HN.out (by omega) R7.out Q7.out).mono ?_
  rintro e w8 ⟨rfl, kd, hW8⟩
  have hb8 := drew_below hW8
  have S8 := Lib.hid (S7.out.below hb8)
  have T8 := Lib.hid (T7.out.below hb8)
  have B8 := Lib.hid (B7.out.trans (hb8.mono B7.out.size))
  clear hb8 hW8 S7 T7 B7 R7 Q7
  go_wp2_with fail
  refine (most_any _).mono ?_
  rintro e w9 ⟨rfl, rfl⟩
  go_wp2_with fail
  refine (most_any _).mono ?_
  rintro e w9 ⟨rfl, rfl⟩
  go_wp2_with fail
  refine (awake34 _ (ad 1) S8.out.s1 T8.out).mono ?_
  rintro e w9 ⟨rfl, hb9⟩
  have B9 := Lib.hid (B8.out.trans (hb9.mono B8.out.size))
  clear hb9
  go_wp2_with fail
  go_ret
  exact ⟨rfl, B9.out⟩

/-- RecordPuts returns true. -/
theorem puts_any (r : Rc) (va vv vm vt : Value) (w : World) (h : InAt w w.heap.size va vv vm vt r) (ad : Nat → Addr) (hS : Sents w ad) (hT : TabAt w) :
    Calls Tryd.prog 8 #[.agg (recV r va vv vm vt)] w fun e w' => e = .returned (.bool true) ∧ Below w.heap.size w w' := by
  cases hR : rightB r
  · exact puts_no r va vv vm vt w h ad hS hT hR
  · exact puts_yes r va vv vm vt w h ad hS hT hR
end Go.Proofs.YtbleibmjippmpaaDoor
