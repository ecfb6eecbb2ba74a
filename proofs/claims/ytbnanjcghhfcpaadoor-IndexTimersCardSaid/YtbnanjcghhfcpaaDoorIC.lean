/- record.Check, with the error's cells. -/
import Derived.Test.YtbnanjcghhfcpaaDoorRec4
namespace Go.Proofs.YtbnanjcghhfcpaaDoor
open Go.RowKit

/-- What Check tells: right and nil, or not right and where the error of ErrForm lies. -/
def ChkAt (ok : Bool) (aF : Addr) (w : World) (e : Ending) (w' : World) : Prop := ∃ E, e = .returned E ∧ Below w.heap.size w w' ∧ ((ok = true ∧ E = .nilIface) ∨ (ok = false ∧ ∃ n s, E = .iface 82 (.pointer (some ⟨n, 0, none⟩)) ∧ w.heap.size ≤ n ∧ Whole w' n 84 #[.string s, .int .i64 (-1), .iface 145 (.pointer (some aF))]))

set_option maxHeartbeats 2000000 in
set_option maxRecDepth 100000 in
theorem checkAt_any (r : Rc) (va vv vm vt : Value) (w : World) (h : InAt w w.heap.size va vv vm vt r) (aF : Addr) (hf : Sent w 0 aF) :
    Calls Tryd.prog 30 #[.agg (recV r va vv vm vt)] w (ChkAt (rightB r) aF w) := by
  have hb0 := (Below.refl w.heap.size w).alloc (Nat.le_refl _) (.cells (recV r va vv vm vt) 38)
  have F0 := hf.below hb0
  have cF := F0.1
  have HF := Lib.hid F0
  have HI := Lib.hid (h.below hb0)
  have HB := Lib.hid hb0
  have R0 := Lib.hid (show rightB r = (((decide (1 ≤ r.chart) && decide (r.chart ≤ 2147483647)) && clkB r.born && clkB r.steps) && statesB r.active && varsB r.vars && memsB r.mem && timersB r.timers) by simp [rightB, headB])
  have M0 := Lib.hid (Whole.new w 38 (recV r va vv vm vt))
  obtain ⟨A1, k1, e1, _, _⟩ := h.act.form
  obtain ⟨A2, k2, e2, _, _⟩ := h.vars.form
  obtain ⟨A3, k3, e3, _, _⟩ := h.mem.form
  obtain ⟨A4, k4, e4, _, _⟩ := h.tms.form
  subst e1 e2 e3 e4
  clear h hf hb0 F0
  obtain ⟨ch, bo, st, ac, vs, ms, ts, ov⟩ := r
  simp only [recV] at *
  generalize ac.length = n1 at *
  generalize vs.length = n2 at *
  generalize ms.length = n3 at *
  generalize ts.length = n4 at *
  have no : ∀ (s : ByteArray) (n : Nat), rightB ⟨ch, bo, st, ac, vs, ms, ts, ov⟩ = false → ∀ (W : World), n = W.heap.size → Below w.heap.size w W → Sent W 0 aF →
      ChkAt (rightB ⟨ch, bo, st, ac, vs, ms, ts, ov⟩) aF w (.returned (.iface 82 (.pointer (some ⟨n, 0, none⟩)))) (W.alloc (.cells #[.string s, .int .i64 (-1), .iface 145 (.pointer (some aF))] 84)) := fun s n hr W hn hB hS => by
    subst hn
    rw [hr]
    exact ⟨_, rfl, hB.alloc hB.size _, .inr ⟨rfl, _, s, rfl, hB.size, Whole.new _ _ _⟩⟩
  have NO := Lib.hid no
  clear no
  by_cases h1 : ¬ 1 ≤ ch
  · have rf := Lib.hid (show rightB ⟨ch, bo, st, ac, vs, ms, ts, ov⟩ = false by rw [R0.out]; simp [h1])
    go_enter Tryd.func30, Tryd.ntmps30
    go_wp2_with (go_at_call 21; refine (new_any _ _ _ _).mono ?_; rintro e w' ⟨rfl, rfl⟩)
    go_ret
    exact NO.out _ _ rf.out _ (by simp) HB.out HF.out
  have h1 : 1 ≤ ch := by omega
  by_cases h2 : ¬ ch ≤ 2147483647
  · have rf := Lib.hid (show rightB ⟨ch, bo, st, ac, vs, ms, ts, ov⟩ = false by rw [R0.out]; simp [h2])
    go_enter Tryd.func30, Tryd.ntmps30
    go_wp2_with (go_at_call 21; refine (new_any _ _ _ _).mono ?_; rintro e w' ⟨rfl, rfl⟩)
    go_ret
    exact NO.out _ _ rf.out _ (by simp) HB.out HF.out
  have h2 : ch ≤ 2147483647 := by omega
  cases h3 : clkB bo
  · have rf := Lib.hid (show rightB ⟨ch, bo, st, ac, vs, ms, ts, ov⟩ = false by rw [R0.out]; simp [h3])
    go_enter Tryd.func30, Tryd.ntmps30
    go_wp2_with (first | (go_at_call 21; refine (new_any _ _ _ _).mono ?_; rintro e w' ⟨rfl, rfl⟩) | (go_at_call 51; refine (rclk_any _ _).mono ?_; rintro e w' ⟨rfl, rfl⟩))
    go_ret
    exact NO.out _ _ rf.out _ (by simp) HB.out HF.out
  cases h4 : clkB st
  · have rf := Lib.hid (show rightB ⟨ch, bo, st, ac, vs, ms, ts, ov⟩ = false by rw [R0.out]; simp [h4])
    go_enter Tryd.func30, Tryd.ntmps30
    go_wp2_with (first | (go_at_call 21; refine (new_any _ _ _ _).mono ?_; rintro e w' ⟨rfl, rfl⟩) | (go_at_call 51; refine (rclk_any _ _).mono ?_; rintro e w' ⟨rfl, rfl⟩))
    go_ret
    exact NO.out _ _ rf.out _ (by simp) HB.out HF.out
  cases h5 : statesB ac
  · have rf := Lib.hid (show rightB ⟨ch, bo, st, ac, vs, ms, ts, ov⟩ = false by rw [R0.out]; simp [h5])
    go_enter Tryd.func30, Tryd.ntmps30
    go_wp2_with (first | (go_at_call 21; refine (new_any _ _ _ _).mono ?_; rintro e w' ⟨rfl, rfl⟩) | (go_at_call 51; refine (rclk_any _ _).mono ?_; rintro e w' ⟨rfl, rfl⟩) | (go_at_call 52; refine (states_any _ ac _ _ HI.out.act).mono ?_; rintro e w' ⟨rfl, rfl⟩))
    go_ret
    exact NO.out _ _ rf.out _ (by simp) HB.out HF.out
  cases h6 : varsB vs
  · have rf := Lib.hid (show rightB ⟨ch, bo, st, ac, vs, ms, ts, ov⟩ = false by rw [R0.out]; simp [h6])
    go_enter Tryd.func30, Tryd.ntmps30
    go_wp2_with (first | (go_at_call 21; refine (new_any _ _ _ _).mono ?_; rintro e w' ⟨rfl, rfl⟩) | (go_at_call 51; refine (rclk_any _ _).mono ?_; rintro e w' ⟨rfl, rfl⟩) | (go_at_call 52; refine (states_any _ ac _ _ HI.out.act).mono ?_; rintro e w' ⟨rfl, rfl⟩) | (go_at_call 53; refine (vars_any _ vs _ _ HI.out.vars).mono ?_; rintro e w' ⟨rfl, rfl⟩))
    go_ret
    exact NO.out _ _ rf.out _ (by simp) HB.out HF.out
  go_enter Tryd.func30, Tryd.ntmps30
  go_wp2_with (first | (go_at_call 51; refine (rclk_any _ _).mono ?_; rintro e w' ⟨rfl, rfl⟩) | (go_at_call 52; refine (states_any _ ac _ _ HI.out.act).mono ?_; rintro e w' ⟨rfl, rfl⟩) | (go_at_call 53; refine (vars_any _ vs _ _ HI.out.vars).mono ?_; rintro e w' ⟨rfl, rfl⟩))
  refine (memories_any _ ms _ HI.out.mem).mono ?_
  rintro e w1 ⟨rfl, hb1⟩
  have I1 := Lib.hid (HI.out.below hb1)
  have F1 := Lib.hid (HF.out.below hb1)
  have B1 := Lib.hid (HB.out.trans (hb1.mono (by simp)))
  obtain ⟨m0, m1, m2, m3, m4, m5, m6, m7⟩ := c8 (M0.out.below hb1 (by simp))
  have cF1 := F1.out.1
  clear hb1 HI HF HB M0 cF m0 m1 m2 m7
  cases h7 : memsB ms
  · have rf := Lib.hid (show rightB ⟨ch, bo, st, ac, vs, ms, ts, ov⟩ = false by rw [R0.out]; simp [h7])
    go_wp2_with (go_at_call 21; refine (new_any _ _ _ _).mono ?_; rintro e w' ⟨rfl, rfl⟩)
    go_ret
    exact NO.out _ _ rf.out _ (by simp) B1.out F1.out
  go_wp2_with fail
  refine (timers_any _ ts _ I1.out.tms).mono ?_
  rintro e w2 ⟨rfl, hb2⟩
  have F2 := Lib.hid (F1.out.below hb2)
  have B2 := Lib.hid (B1.out.trans (hb2.mono B1.out.size))
  have cF2 := F2.out.1
  clear hb2 I1 F1 B1 cF1 m3 m4 m5 m6
  cases h8 : timersB ts
  · have rf := Lib.hid (show rightB ⟨ch, bo, st, ac, vs, ms, ts, ov⟩ = false by rw [R0.out]; simp [h8])
    go_wp2_with (go_at_call 21; refine (new_any _ _ _ _).mono ?_; rintro e w' ⟨rfl, rfl⟩)
    go_ret
    exact NO.out _ _ rf.out _ (by simp) B2.out F2.out
  have rf := Lib.hid (show rightB ⟨ch, bo, st, ac, vs, ms, ts, ov⟩ = true by rw [R0.out]; simp [h1, h2, h3, h4, h5, h6, h7, h8])
  go_wp2_with fail
  go_ret
  rw [rf.out]
  exact ⟨_, rfl, B2.out, .inl ⟨rfl, rfl⟩⟩
end Go.Proofs.YtbnanjcghhfcpaaDoor
