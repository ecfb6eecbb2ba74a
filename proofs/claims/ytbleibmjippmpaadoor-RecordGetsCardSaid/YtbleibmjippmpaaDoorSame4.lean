/- The document's Same of memories. -/
import Derived.Test.YtbleibmjippmpaaDoorSame3
namespace Go.Proofs.YtbleibmjippmpaaDoor
open Go.RowKit

set_option maxHeartbeats 2000000 in
set_option maxRecDepth 100000 in
theorem rMems_any (v v' : Value) (l l' : List (Int × List Int)) (B B' : Nat) (w : World) (h : ListAt w B 2 (memR w B) v l) (h' : ListAt w B' 2 (memR w B') v' l') :
    Calls Tryd.prog 129 #[v, v'] w fun e w' => e = .returned (.bool (decide (l = l'))) ∧ ∃ k, w' = w.drewN k := by
  obtain ⟨A, c, rfl, hlc, hcm⟩ := h.form
  obtain ⟨A', c', rfl, hlc', hcm'⟩ := h'.form
  unfold maxLen at hcm hcm'
  have HR := Lib.hid h
  have HR' := Lib.hid h'
  clear h h'
  by_cases hne : l.length = l'.length
  · have HN := Lib.hid hne
    rw [← hne] at HR' hlc' ⊢
    generalize hn : l.length = n at *
    have HL := Lib.hid hn
    clear hn hne
    go_enter Tryd.func129, Tryd.ntmps129
    go_wp2_with fail
    go_loopw [5] (fun i wr => ∃ k j : Nat, k ≤ n ∧ i = .int .i64 k ∧ wr = w.drewN j ∧ l.take k = l'.take k) (fun i _ => n - (intOf i).toNat)
    case atStart => exact ⟨0, 0, by omega, rfl, rfl, by simp⟩
    case round =>
      obtain ⟨k, j, hk, rfl, rfl, htk⟩ := hrel
      have HT := Lib.hid htk
      clear htk
      by_cases hlt : k < n
      · have hkb : k < l.length := by rw [HL.out]; exact hlt
        have hkb' : k < l'.length := by rw [← HN.out]; exact hlt
        obtain ⟨b, off, rfl, hb, hc⟩ := mems_at HR.out k hkb
        obtain ⟨b', off', rfl, hb', hc'⟩ := mems_at HR'.out k hkb'
        obtain ⟨sv, c1, c2, hsv⟩ := hc k hkb
        obtain ⟨sv', c1', c2', hsv'⟩ := hc' k hkb'
        rw [getD_get l k _ hkb] at c1 hsv
        rw [getD_get l' k _ hkb'] at c1' hsv'
        have g1 : (0 : Int) ≤ (k : Int) := by omega
        have g2 : (k : Int) < (n : Int) := by omega
        have yes : Hid (l[k] = l'[k] → l.take (k + 1) = l'.take (k + 1)) := Lib.hid (takes_more HT.out hkb hkb')
        have no : Hid (l[k] ≠ l'[k] → decide (l = l') = false) := Lib.hid (lists_differ hkb hkb')
        generalize l[k] = x at *
        generalize l'[k] = x' at *
        obtain ⟨s, sl⟩ := x
        obtain ⟨s', sl'⟩ := x'
        simp only at c1 c1' hsv hsv'
        obtain ⟨A2, k2, e2, hl2, hm2, hr2⟩ := hsv.one
        obtain ⟨A3, k3, e3, hl3, hm3, hr3⟩ := hsv'.one
        subst e2 e3
        unfold maxLen at hm2 hm3
        have R2 := Lib.hid hr2
        have R3 := Lib.hid hr3
        clear hkb hkb' hc hc' hsv hsv' hr2 hr3
        cases hs : (s != s')
        · obtain rfl : s = s' := by simpa using hs
          cases hq : ((sl.length : Int) != (sl'.length : Int))
          · have hll : sl.length = sl'.length := by
              have : (sl.length : Int) = (sl'.length : Int) := by simpa using hq
              omega
            have HLL := Lib.hid hll
            rw [← hll] at c2' R3 hl3
            have nq : ((sl.length : Int) != (sl.length : Int)) = false := by simp
            clear hq hll
            generalize hn2 : sl.length = n2 at *
            have HL2 := Lib.hid hn2
            clear hn2
            go_wp2_with fail
            go_quiet (fail)
            go_wp2_with fail
            go_loopw [6] (fun i wr => ∃ q j : Nat, q ≤ n2 ∧ i = .int .i64 q ∧ wr = w.drewN j ∧ sl.take q = sl'.take q) (fun i _ => n2 - (intOf i).toNat)
            case atStart => exact ⟨0, _, by omega, rfl, World.drewN_drewN _ _ _, by simp⟩
            case round =>
              obtain ⟨q, j2, hq2, rfl, rfl, htq⟩ := hrel
              have HTQ := Lib.hid htq
              clear htq
              by_cases hlq : q < n2
              · obtain ⟨bb, off2, rfl, _, hcc⟩ := ints_at R2.out HL2.out q hlq
                obtain ⟨bb', off2', rfl, _, hcc'⟩ := ints_at R3.out HLL.out.symm q hlq
                have hqb : q < sl.length := by rw [HL2.out]; exact hlq
                have hqb' : q < sl'.length := by rw [← HLL.out]; exact hlq
                have hck := hcc q hlq
                have hck' := hcc' q hlq
                rw [getD_get sl q 0 hqb] at hck
                rw [getD_get sl' q 0 hqb'] at hck'
                have g3 : (0 : Int) ≤ (q : Int) := by omega
                have g4 : (q : Int) < (n2 : Int) := by omega
                have yes2 : Hid (sl[q] = sl'[q] → sl.take (q + 1) = sl'.take (q + 1)) := Lib.hid (takes_more HTQ.out hqb hqb')
                have no2 : Hid (sl[q] ≠ sl'[q] → decide (sl = sl') = false) := Lib.hid (lists_differ hqb hqb')
                generalize sl[q] = y at *
                generalize sl'[q] = y' at *
                clear hqb hqb' hcc hcc'
                by_cases hy : y = y'
                · have kn := Lib.hid (yes2.out hy)
                  subst hy
                  go_wp2_with fail
                  go_quiet (fail)
                  go_wp2_with fail
                  go_roundw
                  case rel => exact ⟨q + 1, _, by omega, by go_num, rfl, kn.out⟩
                  case measure => simp [intOf]; omega
                · have kn : Hid (decide (l = l') = false) := Lib.hid (no.out (fun e => by
                    have := of_decide_eq_false (no2.out hy)
                    cases e
                    exact this rfl))
                  have e1 : (y != y') = true := by rw [bne_iff_ne]; exact hy
                  go_wp2_with fail
                  go_quiet (fail)
                  go_wp2_with fail
                  go_ret
                  rw [kn.out]
                  exact ⟨rfl, _, World.drewN_drewN _ _ _⟩
              · obtain rfl : q = n2 := by omega
                have kn := Lib.hid (yes.out (by
                  have := of_decide_eq_true (takes_equal HL2.out HLL.out.symm HTQ.out)
                  rw [this]))
                go_wp2_with fail
                go_roundw
                case rel => exact ⟨k + 1, j2, by omega, by go_num, rfl, kn.out⟩
                case measure => simp [intOf]; omega
          · have kn : Hid (decide (l = l') = false) := Lib.hid (no.out (fun e => by cases e; simp at hq))
            generalize sl.length = n2 at *
            generalize sl'.length = n3 at *
            go_wp2_with fail
            go_quiet (fail)
            go_wp2_with fail
            go_ret
            rw [kn.out]
            exact ⟨rfl, _, World.drewN_drewN _ _ _⟩
        · have kn : Hid (decide (l = l') = false) := Lib.hid (no.out (fun e => by cases e; simp at hs))
          go_wp2_with fail
          go_quiet (fail)
          go_wp2_with fail
          go_ret
          rw [kn.out]
          exact ⟨rfl, _, World.drewN_drewN _ _ _⟩
      · obtain rfl : k = n := by omega
        have kn : Hid (decide (l = l') = true) := Lib.hid (takes_equal HL.out HN.out.symm HT.out)
        go_wp2_with fail
        go_ret
        rw [kn.out]
        exact ⟨rfl, j, rfl⟩
  · have kn : Hid (decide (l = l') = false) := Lib.hid (by
      rw [decide_eq_false_iff_not]
      rintro rfl
      exact hne rfl)
    have e1 : ((l.length : Int) != (l'.length : Int)) = true := by rw [bne_iff_ne]; omega
    generalize l.length = n at *
    generalize l'.length = n' at *
    go_enter Tryd.func129, Tryd.ntmps129
    go_wp2_with fail
    go_ret
    rw [kn.out]
    exact ⟨rfl, 0, rfl⟩
end Go.Proofs.YtbleibmjippmpaaDoor
