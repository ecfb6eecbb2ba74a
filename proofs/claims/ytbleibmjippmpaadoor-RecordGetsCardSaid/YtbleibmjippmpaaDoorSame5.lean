/- The document's Same of instances and of records. -/
import Derived.Test.YtbleibmjippmpaaDoorSame4
namespace Go.Proofs.YtbleibmjippmpaaDoor
open Go.RowKit

theorem drew_below {W W1 : World} {k : Nat} (h : W1 = W.drewN k) : Below W.heap.size W W1 := by rw [h]; exact below_drewN (Below.refl _ _) _
theorem len_ne {α : Type} [DecidableEq α] {a b : List α} (h : ((a.length : Int) != (b.length : Int)) = true) : decide (a = b) = false := by
  rw [decide_eq_false_iff_not]
  rintro rfl
  simp at h
theorem len_eq {α : Type} {a b : List α} (h : ((a.length : Int) != (b.length : Int)) = false) : a.length = b.length := by
  have : (a.length : Int) = (b.length : Int) := by simpa using h
  omega

set_option maxHeartbeats 4000000 in
set_option maxRecDepth 100000 in
theorem rInst_any (r r' : Rc) (va vv vm vt va' vv' vm' vt' : Value) (w : World) (h : InAt w w.heap.size va vv vm vt r) (h' : InAt w w.heap.size va' vv' vm' vt' r') :
    Calls Tryd.prog 83 #[.agg #[va, vv, vm, vt, .bool r.over], .agg #[va', vv', vm', vt', .bool r'.over]] w fun e w' => e = .returned (.bool (sameIn r r')) ∧ Below w.heap.size w w' := by
  have hb := ((Below.refl w.heap.size w).alloc (Nat.le_refl _) (.cells #[va, vv, vm, vt, .bool r.over] 50)).alloc (by simp) (.cells #[va', vv', vm', vt', .bool r'.over] 50)
  have H1 := Lib.hid (h.below hb)
  have H2 := Lib.hid (h'.below hb)
  have HB := Lib.hid hb
  have M1 := Lib.hid ((Whole.new w 50 #[va, vv, vm, vt, .bool r.over]).alloc (.cells #[va', vv', vm', vt', .bool r'.over] 50))
  have hM2 := Whole.new (w.alloc (.cells #[va, vv, vm, vt, .bool r.over] 50)) 50 #[va', vv', vm', vt', .bool r'.over]
  rw [World.size_alloc] at hM2
  have M2 := Lib.hid hM2
  obtain ⟨A1, k1, e1, l1, mx1⟩ := h.act.form
  obtain ⟨A2, k2, e2, l2, mx2⟩ := h.vars.form
  obtain ⟨A3, k3, e3, _, _⟩ := h.mem.form
  obtain ⟨A4, k4, e4, l4, mx4⟩ := h.tms.form
  obtain ⟨A5, k5, e5, l5, mx5⟩ := h'.act.form
  obtain ⟨A6, k6, e6, l6, mx6⟩ := h'.vars.form
  obtain ⟨A7, k7, e7, _, _⟩ := h'.mem.form
  obtain ⟨A8, k8, e8, l8, mx8⟩ := h'.tms.form
  subst e1 e2 e3 e4 e5 e6 e7 e8
  unfold maxLen at mx1 mx2 mx4 mx5 mx6 mx8
  have HS := Lib.hid (show sameIn r r' = (decide (r.mem = r'.mem) && decide (r.over = r'.over) && decide (r.active = r'.active) && decide (r.vars = r'.vars) && decide (r.timers = r'.timers)) from rfl)
  clear h h' hb hM2
  go_enter Tryd.func83, Tryd.ntmps83
  go_wp2_with fail
  refine (rMems_any _ _ r.mem r'.mem _ _ _ H1.out.mem H2.out.mem).mono ?_
  rintro e w1 ⟨rfl, q1, hq1⟩
  have hb1 := drew_below hq1
  have I1 := H1.out.below hb1
  have I2 := H2.out.below hb1
  have B1 := Lib.hid (HB.out.trans (hb1.mono (by simp; omega)))
  obtain ⟨m0, m1, m2, m3, m4⟩ := five (M1.out.below hb1 (by simp; omega))
  obtain ⟨n0, n1, n2, n3, n4⟩ := five (M2.out.below hb1 (by simp))
  obtain ⟨_, _, ea, _, _, ra⟩ := I1.act.one
  cases ea
  obtain ⟨_, _, eb, _, _, rb⟩ := I1.vars.one
  cases eb
  obtain ⟨_, _, ec, _, _, rc⟩ := I2.act.one
  cases ec
  obtain ⟨_, _, ed, _, _, rd⟩ := I2.vars.one
  cases ed
  have RA := Lib.hid ra
  have RB := Lib.hid rb
  have RC := Lib.hid rc
  have RD := Lib.hid rd
  have T1 := Lib.hid I1.tms
  have T2 := Lib.hid I2.tms
  clear hb1 hq1 H1 H2 HB M1 M2 I1 I2 ra rb rc rd m2 n2
  cases d1 : decide (r.mem = r'.mem)
  · have kn := Lib.hid (show sameIn r r' = false by rw [HS.out, d1]; rfl)
    go_wp2_with fail
    go_ret
    rw [kn.out]
    exact ⟨rfl, B1.out⟩
  by_cases ho : ¬ r.over = r'.over
  · have kn := Lib.hid (show sameIn r r' = false by rw [HS.out, decide_eq_false ho]; simp)
    clear HS RA RB RC RD T1 T2
    generalize r.over = o1 at *
    generalize r'.over = o2 at *
    cases o1 <;> cases o2
    all_goals first
      | exact absurd rfl ho
      | (go_wp2_with fail
         go_ret
         rw [kn.out]
         exact ⟨rfl, B1.out⟩)
  have ho : r.over = r'.over := Decidable.not_not.1 ho
  have d2 : Hid (decide (r.over = r'.over) = true) := Lib.hid (decide_eq_true ho)
  rw [ho] at m4
  clear ho
  by_cases q3 : ((r.timers.length : Int) != (r'.timers.length : Int)) = true
  · have kn := Lib.hid (show sameIn r r' = false by rw [HS.out, len_ne q3]; simp)
    go_wp2_with fail
    go_ret
    rw [kn.out]
    exact ⟨rfl, B1.out⟩
  have q3 : ((r.timers.length : Int) != (r'.timers.length : Int)) = false := Bool.eq_false_iff.2 q3
  by_cases q4 : ((r.active.length : Int) != (r'.active.length : Int)) = true
  · have kn := Lib.hid (show sameIn r r' = false by rw [HS.out, len_ne q4]; simp)
    go_wp2_with fail
    go_ret
    rw [kn.out]
    exact ⟨rfl, B1.out⟩
  have q4 : ((r.active.length : Int) != (r'.active.length : Int)) = false := Bool.eq_false_iff.2 q4
  by_cases q5 : ((r.vars.length : Int) != (r'.vars.length : Int)) = true
  · have kn := Lib.hid (show sameIn r r' = false by rw [HS.out, len_ne q5]; simp)
    go_wp2_with fail
    go_ret
    rw [kn.out]
    exact ⟨rfl, B1.out⟩
  have q5 : ((r.vars.length : Int) != (r'.vars.length : Int)) = false := Bool.eq_false_iff.2 q5
  have HN3 := Lib.hid (len_eq q3)
  have HN4 := Lib.hid (len_eq q4)
  have HN5 := Lib.hid (len_eq q5)
  go_wp2_with fail
  go_loopw [5] (fun i wr => ∃ k j : Nat, k ≤ r.timers.length ∧ i = .int .i64 k ∧ wr = w1.drewN j ∧ r.timers.take k = r'.timers.take k) (fun i _ => r.timers.length - (intOf i).toNat)
  case atStart => exact ⟨0, 0, by omega, rfl, rfl, by simp⟩
  case round =>
    obtain ⟨k, j, hk, rfl, rfl, htk⟩ := hrel
    have HT := Lib.hid htk
    clear htk
    by_cases hlt : k < r.timers.length
    · have hkb' : k < r'.timers.length := by rw [← HN3.out]; exact hlt
      obtain ⟨b, off, eA, _, hc⟩ := tms_at T1.out k hlt
      obtain ⟨b', off', eA', _, hc'⟩ := tms_at T2.out k hkb'
      subst eA eA'
      obtain ⟨c1, c2, _⟩ := hc k hlt
      obtain ⟨c1', c2', _⟩ := hc' k hkb'
      rw [getD_get r.timers k _ hlt] at c1 c2
      rw [getD_get r'.timers k _ hkb'] at c1' c2'
      have g1 : (0 : Int) ≤ (k : Int) := by omega
      have g2 : (k : Int) < (r.timers.length : Int) := by omega
      have g3 : (k : Int) < (r'.timers.length : Int) := by omega
      have yes : Hid (r.timers[k] = r'.timers[k] → r.timers.take (k + 1) = r'.timers.take (k + 1)) := Lib.hid (takes_more HT.out hlt hkb')
      have no : Hid (r.timers[k] ≠ r'.timers[k] → sameIn r r' = false) := Lib.hid (fun hh => by rw [HS.out, lists_differ hlt hkb' hh]; simp)
      generalize r.timers[k] = x at *
      generalize r'.timers[k] = x' at *
      obtain ⟨s, a⟩ := x
      obtain ⟨s', a'⟩ := x'
      simp only at c1 c2 c1' c2'
      clear hc hc' hkb'
      cases hs : (s == s')
      · have kn := Lib.hid (no.out (fun e => by cases e; simp at hs))
        go_wp2_with fail
        go_quiet (fail)
        go_wp2_with fail
        go_ret
        rw [kn.out]
        refine ⟨rfl, ?_⟩
        first | exact below_drewN B1.out _ | exact below_drewN (below_drewN B1.out _) _
      · obtain rfl : s = s' := by simpa using hs
        clear hs
        by_cases ha : a = a'
        · have kn := Lib.hid (yes.out (by rw [ha]))
          subst ha
          go_wp2_with fail
          go_quiet (fail)
          go_wp2_with fail
          go_roundw
          case rel => exact ⟨k + 1, _, by omega, by go_num, rfl, kn.out⟩
          case measure => simp [intOf]; omega
        · have kn := Lib.hid (no.out (fun e => by cases e; exact ha rfl))
          have e1 : (a == a') = false := by rw [beq_eq_false_iff_ne]; exact ha
          go_wp2_with fail
          go_quiet (fail)
          go_wp2_with fail
          go_ret
          rw [kn.out]
          refine ⟨rfl, ?_⟩
          first | exact below_drewN B1.out _ | exact below_drewN (below_drewN B1.out _) _
    · obtain rfl : k = r.timers.length := by omega
      have D0 := Lib.hid (takes_equal rfl HN3.out.symm HT.out)
      go_wp2_with fail
      go_loopw [6] (fun i wr => ∃ k j : Nat, k ≤ r.active.length ∧ i = .int .i64 k ∧ wr = w1.drewN j ∧ r.active.take k = r'.active.take k) (fun i _ => r.active.length - (intOf i).toNat)
      case atStart => exact ⟨0, _, by omega, rfl, rfl, by simp⟩
      case round =>
        obtain ⟨k, j, hk, rfl, rfl, htk⟩ := hrel
        have HT := Lib.hid htk
        clear htk
        by_cases hlt : k < r.active.length
        · have hkb' : k < r'.active.length := by rw [← HN4.out]; exact hlt
          obtain ⟨b, off, eA, _, hc⟩ := ints_at RA.out rfl k hlt
          obtain ⟨b', off', eA', _, hc'⟩ := ints_at RC.out rfl k hkb'
          subst eA eA'
          have c1 := hc k hlt
          have c1' := hc' k hkb'
          rw [getD_get r.active k 0 hlt] at c1
          rw [getD_get r'.active k 0 hkb'] at c1'
          have g1 : (0 : Int) ≤ (k : Int) := by omega
          have g2 : (k : Int) < (r.active.length : Int) := by omega
          have g3 : (k : Int) < (r'.active.length : Int) := by omega
          have yes : Hid (r.active[k] = r'.active[k] → r.active.take (k + 1) = r'.active.take (k + 1)) := Lib.hid (takes_more HT.out hlt hkb')
          have no : Hid (r.active[k] ≠ r'.active[k] → sameIn r r' = false) := Lib.hid (fun hh => by rw [HS.out, lists_differ hlt hkb' hh]; simp)
          generalize r.active[k] = x at *
          generalize r'.active[k] = x' at *
          clear hc hc' hkb'
          by_cases hx : x = x'
          · have kn := Lib.hid (yes.out hx)
            subst hx
            go_wp2_with fail
            go_quiet (fail)
            go_wp2_with fail
            go_roundw
            case rel => exact ⟨k + 1, _, by omega, by go_num, rfl, kn.out⟩
            case measure => simp [intOf]; omega
          · have kn := Lib.hid (no.out hx)
            have e1 : (x != x') = true := by rw [bne_iff_ne]; exact hx
            go_wp2_with fail
            go_quiet (fail)
            go_wp2_with fail
            go_ret
            rw [kn.out]
            refine ⟨rfl, ?_⟩
            first | exact below_drewN B1.out _ | exact below_drewN (below_drewN B1.out _) _
        · obtain rfl : k = r.active.length := by omega
          have D1 := Lib.hid (takes_equal rfl HN4.out.symm HT.out)
          go_wp2_with fail
          go_loopw [7] (fun i wr => ∃ k j : Nat, k ≤ r.vars.length ∧ i = .int .i64 k ∧ wr = w1.drewN j ∧ r.vars.take k = r'.vars.take k) (fun i _ => r.vars.length - (intOf i).toNat)
          case atStart => exact ⟨0, _, by omega, rfl, rfl, by simp⟩
          case round =>
            obtain ⟨k, j, hk, rfl, rfl, htk⟩ := hrel
            have HT := Lib.hid htk
            clear htk
            by_cases hlt : k < r.vars.length
            · have hkb' : k < r'.vars.length := by rw [← HN5.out]; exact hlt
              obtain ⟨b, off, eA, _, hc⟩ := ints_at RB.out rfl k hlt
              obtain ⟨b', off', eA', _, hc'⟩ := ints_at RD.out rfl k hkb'
              subst eA eA'
              have c1 := hc k hlt
              have c1' := hc' k hkb'
              rw [getD_get r.vars k 0 hlt] at c1
              rw [getD_get r'.vars k 0 hkb'] at c1'
              have g1 : (0 : Int) ≤ (k : Int) := by omega
              have g2 : (k : Int) < (r.vars.length : Int) := by omega
              have g3 : (k : Int) < (r'.vars.length : Int) := by omega
              have yes : Hid (r.vars[k] = r'.vars[k] → r.vars.take (k + 1) = r'.vars.take (k + 1)) := Lib.hid (takes_more HT.out hlt hkb')
              have no : Hid (r.vars[k] ≠ r'.vars[k] → sameIn r r' = false) := Lib.hid (fun hh => by rw [HS.out, lists_differ hlt hkb' hh]; simp)
              generalize r.vars[k] = x at *
              generalize r'.vars[k] = x' at *
              clear hc hc' hkb'
              by_cases hx : x = x'
              · have kn := Lib.hid (yes.out hx)
                subst hx
                go_wp2_with fail
                go_quiet (fail)
                go_wp2_with fail
                go_roundw
                case rel => exact ⟨k + 1, _, by omega, by go_num, rfl, kn.out⟩
                case measure => simp [intOf]; omega
              · have kn := Lib.hid (no.out hx)
                have e1 : (x != x') = true := by rw [bne_iff_ne]; exact hx
                go_wp2_with fail
                go_quiet (fail)
                go_wp2_with fail
                go_ret
                rw [kn.out]
                refine ⟨rfl, ?_⟩
                first | exact below_drewN B1.out _ | exact below_drewN (below_drewN B1.out _) _
            · obtain rfl : k = r.vars.length := by omega
              have D2 := Lib.hid (takes_equal rfl HN5.out.symm HT.out)
              go_wp2_with fail
              go_ret
              have kn : sameIn r r' = true := by rw [HS.out, d1, d2.out, D0.out, D1.out, D2.out]; rfl
              rw [kn]
              exact ⟨rfl, below_drewN B1.out _⟩

set_option maxHeartbeats 2000000 in
set_option maxRecDepth 100000 in
theorem rSame_any (r r' : Rc) (va vv vm vt va' vv' vm' vt' : Value) (w : World) (h : InAt w w.heap.size va vv vm vt r) (h' : InAt w w.heap.size va' vv' vm' vt' r') :
    Calls Tryd.prog 33 #[.agg (recV r va vv vm vt), .agg (recV r' va' vv' vm' vt')] w fun e w' => e = .returned (.bool (sameRc r r')) ∧ Below w.heap.size w w' := by
  have hb := ((Below.refl w.heap.size w).alloc (Nat.le_refl _) (.cells (recV r va vv vm vt) 58)).alloc (by simp) (.cells (recV r' va' vv' vm' vt') 58)
  have H1 := Lib.hid (h.below hb)
  have H2 := Lib.hid (h'.below hb)
  have HB := Lib.hid hb
  obtain ⟨A1, k1, e1, _, _⟩ := h.act.form
  obtain ⟨A2, k2, e2, _, _⟩ := h.vars.form
  obtain ⟨A3, k3, e3, _, _⟩ := h.mem.form
  obtain ⟨A4, k4, e4, _, _⟩ := h.tms.form
  obtain ⟨A5, k5, e5, _, _⟩ := h'.act.form
  obtain ⟨A6, k6, e6, _, _⟩ := h'.vars.form
  obtain ⟨A7, k7, e7, _, _⟩ := h'.mem.form
  obtain ⟨A8, k8, e8, _, _⟩ := h'.tms.form
  subst e1 e2 e3 e4 e5 e6 e7 e8
  have HS := Lib.hid (show sameRc r r' = (decide (r.chart = r'.chart) && decide (r.born = r'.born) && decide (r.steps = r'.steps) && sameIn r r') from rfl)
  clear h h' hb
  simp only [recV] at *
  cases d1 : (r.chart == r'.chart)
  · have kn := Lib.hid (show sameRc r r' = false by rw [HS.out, decide_eq_false (by simpa using d1)]; rfl)
    go_enter Tryd.func33, Tryd.ntmps33
    go_wp2_with fail
    go_ret
    rw [kn.out]
    exact ⟨rfl, HB.out⟩
  cases d2 : (r.born == r'.born)
  · have kn := Lib.hid (show sameRc r r' = false by rw [HS.out, decide_eq_false (show ¬ r.born = r'.born by simpa using d2)]; simp)
    go_enter Tryd.func33, Tryd.ntmps33
    go_wp2_with fail
    go_ret
    rw [kn.out]
    exact ⟨rfl, HB.out⟩
  cases d3 : (r.steps == r'.steps)
  · have kn := Lib.hid (show sameRc r r' = false by rw [HS.out, decide_eq_false (show ¬ r.steps = r'.steps by simpa using d3)]; simp)
    go_enter Tryd.func33, Tryd.ntmps33
    go_wp2_with fail
    go_ret
    rw [kn.out]
    exact ⟨rfl, HB.out⟩
  have kn := Lib.hid (show sameRc r r' = sameIn r r' by rw [HS.out, decide_eq_true (show r.chart = r'.chart by simpa using d1), decide_eq_true (show r.born = r'.born by simpa using d2), decide_eq_true (show r.steps = r'.steps by simpa using d3)]; simp)
  go_enter Tryd.func33, Tryd.ntmps33
  go_wp2_with fail
  refine (rInst_any r r' _ _ _ _ _ _ _ _ _ H1.out H2.out).mono ?_
  rintro e w1 ⟨rfl, hb1⟩
  have B1 := Lib.hid (HB.out.trans (hb1.mono (by simp; omega)))
  clear hb1
  go_wp2_with fail
  go_ret
  rw [kn.out]
  exact ⟨rfl, B1.out⟩
end Go.Proofs.YtbleibmjippmpaaDoor
