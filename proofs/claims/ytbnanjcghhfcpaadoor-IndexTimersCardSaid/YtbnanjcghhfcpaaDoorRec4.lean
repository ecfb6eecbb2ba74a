/- record.Check. -/
import Derived.Test.YtbnanjcghhfcpaaDoorRec3
import Derived.Test.YtbnanjcghhfcpaaDoorErr
namespace Go.Proofs.YtbnanjcghhfcpaaDoor
open Go.RowKit

/-- The four slices of a record, below block B. -/
structure InAt (w : World) (B : Nat) (va vv vm vt : Value) (r : Rc) : Prop where
  act : ListAt w B 1 intR va r.active
  vars : ListAt w B 1 intR vv r.vars
  mem : ListAt w B 2 (memR w B) vm r.mem
  tms : ListAt w B 2 tmR vt r.timers
theorem memR_wider {w : World} {B B' : Nat} (hB : B ≤ B') (cs : List Value) (m : Int × List Int) (h : memR w B cs m) : memR w B' cs m := by
  obtain ⟨v, e, h⟩ := h
  exact ⟨v, e, h.wider hB fun _ _ _ h => h⟩
theorem InAt.moved {w w' : World} {B : Nat} {va vv vm vt : Value} {r : Rc} (h : InAt w B va vv vm vt r) (hk : ∀ b off, b < B → w'.cell? ⟨b, off, none⟩ = w.cell? ⟨b, off, none⟩) : InAt w' B va vv vm vt r :=
  ⟨h.act.moved hk fun _ _ _ h => h, h.vars.moved hk fun _ _ _ h => h, h.mem.moved hk fun cs m _ h => memR_moved hk cs m h, h.tms.moved hk fun _ _ _ h => h⟩
theorem InAt.wider {w : World} {B B' : Nat} {va vv vm vt : Value} {r : Rc} (h : InAt w B va vv vm vt r) (hB : B ≤ B') : InAt w B' va vv vm vt r :=
  ⟨h.act.wider hB fun _ _ _ h => h, h.vars.wider hB fun _ _ _ h => h, h.mem.wider hB fun cs m _ h => memR_wider hB cs m h, h.tms.wider hB fun _ _ _ h => h⟩
theorem InAt.below {w w' : World} {va vv vm vt : Value} {r : Rc} (h : InAt w w.heap.size va vv vm vt r) (hb : Below w.heap.size w w') : InAt w' w'.heap.size va vv vm vt r :=
  (h.moved (below_cellEq hb)).wider hb.size
theorem InAt.alloc {w : World} {va vv vm vt : Value} {r : Rc} (h : InAt w w.heap.size va vv vm vt r) (o : Obj) : InAt (w.alloc o) (w.alloc o).heap.size va vv vm vt r :=
  h.below ((Below.refl _ w).alloc (Nat.le_refl _) o)

/-- A record's value. -/
abbrev recV (r : Rc) (va vv vm vt : Value) : Array Value := #[.int .i64 r.chart, .int .i64 r.born, .int .i64 r.steps, va, vv, vm, vt, .bool r.over]

theorem c8 {w : World} {g : Nat} {t : TypeId} {a b c d e f x y : Value} (h : Whole w g t #[a, b, c, d, e, f, x, y]) :
    w.cell? ⟨g, 0, none⟩ = some a ∧ w.cell? ⟨g, 1, none⟩ = some b ∧ w.cell? ⟨g, 2, none⟩ = some c ∧ w.cell? ⟨g, 3, none⟩ = some d ∧ w.cell? ⟨g, 4, none⟩ = some e ∧ w.cell? ⟨g, 5, none⟩ = some f ∧ w.cell? ⟨g, 6, none⟩ = some x ∧ w.cell? ⟨g, 7, none⟩ = some y :=
  ⟨h.cell 0, h.cell 1, h.cell 2, h.cell 3, h.cell 4, h.cell 5, h.cell 6, h.cell 7⟩

/-- What Check and others tell: right and nil, or not right and an error of ErrForm. -/
def ChkPost (ok : Bool) (aF : Addr) (w : World) (e : Ending) (w' : World) : Prop := ∃ E, e = .returned E ∧ Below w.heap.size w w' ∧ ((ok = true ∧ E = .nilIface) ∨ (ok = false ∧ ErrAt w' aF 1 E))

set_option maxHeartbeats 2000000 in
set_option maxRecDepth 100000 in
theorem check_any (r : Rc) (va vv vm vt : Value) (w : World) (h : InAt w w.heap.size va vv vm vt r) (aF : Addr) (hf : Sent w 0 aF) :
    Calls Tryd.prog 30 #[.agg (recV r va vv vm vt)] w (ChkPost (rightB r) aF w) := by
  have hb0 := (Below.refl w.heap.size w).alloc (Nat.le_refl _) (.cells (recV r va vv vm vt) 38)
  have F0 := hf.below hb0
  have cF := F0.1
  have HF := Lib.hid F0
  have HI := Lib.hid (h.below hb0)
  have HB := Lib.hid hb0
  have R0 := Lib.hid (show rightB r = (((decide (1 ≤ r.chart) && decide (r.chart ≤ 2147483647)) && clkB r.born && clkB r.steps) && statesB r.active && varsB r.vars && memsB r.mem && timersB r.timers) by simp [rightB, headB])
  have M0 := Lib.hid (Whole.new w 38 (recV r va vv vm vt))
  obtain ⟨A1, k1, e1, _, _⟩ := h.act.form
  obtain ⟨A2, k2, e2, _, _⟩ := h.vars.form
  obtain ⟨A3, k3, e3, _, _⟩ := h.mem.form
  obtain ⟨A4, k4, e4, _, _⟩ := h.tms.form
  subst e1 e2 e3 e4
  clear h hf hb0 F0
  obtain ⟨ch, bo, st, ac, vs, ms, ts, ov⟩ := r
  simp only [recV] at *
  generalize ac.length = n1 at *
  generalize vs.length = n2 at *
  generalize ms.length = n3 at *
  generalize ts.length = n4 at *
  have no : ∀ (s : ByteArray) (n : Nat), rightB ⟨ch, bo, st, ac, vs, ms, ts, ov⟩ = false → ∀ (W : World), n = W.heap.size → Below w.heap.size w W → Sent W 0 aF →
      ChkPost (rightB ⟨ch, bo, st, ac, vs, ms, ts, ov⟩) aF w (.returned (.iface 82 (.pointer (some ⟨n, 0, none⟩)))) (W.alloc (.cells #[.string s, .int .i64 (-1), .iface 145 (.pointer (some aF))] 84)) := fun s n hr W hn hB hS => by
    subst hn
    rw [hr]
    exact ⟨_, rfl, hB.alloc hB.size _, .inr ⟨rfl, ErrAt.new hS s (-1)⟩⟩
  have NO := Lib.hid no
  clear no
  by_cases h1 : ¬ 1 ≤ ch
  · have rf := Lib.hid (show rightB ⟨ch, bo, st, ac, vs, ms, ts, ov⟩ = false by rw [R0.out]; simp [h1])
    go_enter Tryd.func30, Tryd.ntmps30
    go_wp2_with (go_at_call 21; refine (new_any _ _ _ _).mono ?_; rintro e w' ⟨rfl, rfl⟩)
    go_ret
    exact NO.out _ _ rf.out _ (by simp) HB.out HF.out
  have h1 : 1 ≤ ch := by omega
  by_cases h2 : ¬ ch ≤ 2147483647
  · have rf := Lib.hid (show rightB ⟨ch, bo, st, ac, vs, ms, ts, ov⟩ = false by rw [R0.out]; simp [h2])
    go_enter Tryd.func30, Tryd.ntmps30
    go_wp2_with (go_at_call 21; refine (new_any _ _ _ _).mono ?_; rintro e w' ⟨rfl, rfl⟩)
    go_ret
    exact NO.out _ _ rf.out _ (by simp) HB.out HF.out
  have h2 : ch ≤ 2147483647 := by omega
  cases h3 : clkB bo
  · have rf := Lib.hid (show rightB ⟨ch, bo, st, ac, vs, ms, ts, ov⟩ = false by rw [R0.out]; simp [h3])
    go_enter Tryd.func30, Tryd.ntmps30
    go_wp2_with (first | (go_at_call 21; refine (new_any _ _ _ _).mono ?_; rintro e w' ⟨rfl, rfl⟩) | (go_at_call 51; refine (rclk_any _ _).mono ?_; rintro e w' ⟨rfl, rfl⟩))
    go_ret
    exact NO.out _ _ rf.out _ (by simp) HB.out HF.out
  cases h4 : clkB st
  · have rf := Lib.hid (show rightB ⟨ch, bo, st, ac, vs, ms, ts, ov⟩ = false by rw [R0.out]; simp [h4])
    go_enter Tryd.func30, Tryd.ntmps30
    go_wp2_with (first | (go_at_call 21; refine (new_any _ _ _ _).mono ?_; rintro e w' ⟨rfl, rfl⟩) | (go_at_call 51; refine (rclk_any _ _).mono ?_; rintro e w' ⟨rfl, rfl⟩))
    go_ret
    exact NO.out _ _ rf.out _ (by simp) HB.out HF.out
  cases h5 : statesB ac
  · have rf := Lib.hid (show rightB ⟨ch, bo, st, ac, vs, ms, ts, ov⟩ = false by rw [R0.out]; simp [h5])
    go_enter Tryd.func30, Tryd.ntmps30
    go_wp2_with (first | (go_at_call 21; refine (new_any _ _ _ _).mono ?_; rintro e w' ⟨rfl, rfl⟩) | (go_at_call 51; refine (rclk_any _ _).mono ?_; rintro e w' ⟨rfl, rfl⟩) | (go_at_call 52; refine (states_any _ ac _ _ HI.out.act).mono ?_; rintro e w' ⟨rfl, rfl⟩))
    go_ret
    exact NO.out _ _ rf.out _ (by simp) HB.out HF.out
  cases h6 : varsB vs
  · have rf := Lib.hid (show rightB ⟨ch, bo, st, ac, vs, ms, ts, ov⟩ = false by rw [R0.out]; simp [h6])
    go_enter Tryd.func30, Tryd.ntmps30
    go_wp2_with (first | (go_at_call 21; refine (new_any _ _ _ _).mono ?_; rintro e w' ⟨rfl, rfl⟩) | (go_at_call 51; refine (rclk_any _ _).mono ?_; rintro e w' ⟨rfl, rfl⟩) | (go_at_call 52; refine (states_any _ ac _ _ HI.out.act).mono ?_; rintro e w' ⟨rfl, rfl⟩) | (go_at_call 53; refine (vars_any _ vs _ _ HI.out.vars).mono ?_; rintro e w' ⟨rfl, rfl⟩))
    go_ret
    exact NO.out _ _ rf.out _ (by simp) HB.out HF.out
  go_enter Tryd.func30, Tryd.ntmps30
  go_wp2_with (first | (go_at_call 51; refine (rclk_any _ _).mono ?_; rintro e w' ⟨rfl, rfl⟩) | (go_at_call 52; refine (states_any _ ac _ _ HI.out.act).mono ?_; rintro e w' ⟨rfl, rfl⟩) | (go_at_call 53; refine (vars_any _ vs _ _ HI.out.vars).mono ?_; rintro e w' ⟨rfl, rfl⟩))
  refine (memories_any _ ms _ HI.out.mem).mono ?_
  rintro e w1 ⟨rfl, hb1⟩
  have I1 := Lib.hid (HI.out.below hb1)
  have F1 := Lib.hid (HF.out.below hb1)
  have B1 := Lib.hid (HB.out.trans (hb1.mono (by simp)))
  obtain ⟨m0, m1, m2, m3, m4, m5, m6, m7⟩ := c8 (M0.out.below hb1 (by simp))
  have cF1 := F1.out.1
  clear hb1 HI HF HB M0 cF m0 m1 m2 m7
  cases h7 : memsB ms
  · have rf := Lib.hid (show rightB ⟨ch, bo, st, ac, vs, ms, ts, ov⟩ = false by rw [R0.out]; simp [h7])
    go_wp2_with (go_at_call 21; refine (new_any _ _ _ _).mono ?_; rintro e w' ⟨rfl, rfl⟩)
    go_ret
    exact NO.out _ _ rf.out _ (by simp) B1.out F1.out
  go_wp2_with fail
  refine (timers_any _ ts _ I1.out.tms).mono ?_
  rintro e w2 ⟨rfl, hb2⟩
  have F2 := Lib.hid (F1.out.below hb2)
  have B2 := Lib.hid (B1.out.trans (hb2.mono B1.out.size))
  have cF2 := F2.out.1
  clear hb2 I1 F1 B1 cF1 m3 m4 m5 m6
  cases h8 : timersB ts
  · have rf := Lib.hid (show rightB ⟨ch, bo, st, ac, vs, ms, ts, ov⟩ = false by rw [R0.out]; simp [h8])
    go_wp2_with (go_at_call 21; refine (new_any _ _ _ _).mono ?_; rintro e w' ⟨rfl, rfl⟩)
    go_ret
    exact NO.out _ _ rf.out _ (by simp) B2.out F2.out
  have rf := Lib.hid (show rightB ⟨ch, bo, st, ac, vs, ms, ts, ov⟩ = true by rw [R0.out]; simp [h1, h2, h3, h4, h5, h6, h7, h8])
  go_wp2_with fail
  go_ret
  rw [rf.out]
  exact ⟨_, rfl, B2.out, .inl ⟨rfl, rfl⟩⟩
end Go.Proofs.YtbnanjcghhfcpaaDoor
