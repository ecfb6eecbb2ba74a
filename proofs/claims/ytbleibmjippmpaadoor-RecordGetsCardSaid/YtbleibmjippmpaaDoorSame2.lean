/- Memories compared; micro.Same, record.Same. -/
import Derived.Test.YtbleibmjippmpaaDoorSame1
namespace Go.Proofs.YtbleibmjippmpaaDoor
open Go.RowKit

set_option maxHeartbeats 1000000 in
set_option maxRecDepth 100000 in
theorem same1_any (s s' : Int) (v v' : Value) (l l' : List Int) (w : World) (h : ListAt w w.heap.size 1 intR v l) (h' : ListAt w w.heap.size 1 intR v' l') :
    Calls Tryd.prog 131 #[.agg #[.int .i64 s, v], .agg #[.int .i64 s', v']] w fun e w' => e = .returned (.bool (decide ((s, l) = (s', l')))) ∧ Below w.heap.size w w' := by
  have hb := ((Below.refl w.heap.size w).alloc (Nat.le_refl _) (.cells #[.int .i64 s, v] 81)).alloc (by simp) (.cells #[.int .i64 s', v'] 81)
  have H1 := Lib.hid (h.moved (below_cellEq hb) fun _ _ _ h => h)
  have H2 := Lib.hid (h'.moved (below_cellEq hb) fun _ _ _ h => h)
  have HB := Lib.hid hb
  obtain ⟨A, c, rfl, _, _⟩ := h.form
  obtain ⟨A', c', rfl, _, _⟩ := h'.form
  clear h h' hb
  by_cases hs : s = s'
  · have kn := Lib.hid (show decide ((s, l) = (s', l')) = decide (l = l') by simp [hs])
    subst hs
    go_enter Tryd.func131, Tryd.ntmps131
    go_wp2_with fail
    refine (eqInts_any _ _ l l' _ _ _ H1.out H2.out).mono ?_
    rintro e w1 ⟨rfl, k, hk⟩
    have B1 := Lib.hid (show Below w.heap.size w w1 by rw [hk]; exact below_drewN HB.out k)
    clear hk
    go_wp2_with fail
    go_ret
    rw [kn.out]
    exact ⟨rfl, B1.out⟩
  · have kn := Lib.hid (show decide ((s, l) = (s', l')) = false by simp [hs])
    have e1 : (s == s') = false := by rw [beq_eq_false_iff_ne]; exact hs
    go_enter Tryd.func131, Tryd.ntmps131
    go_wp2_with fail
    go_ret
    rw [kn.out]
    exact ⟨rfl, HB.out⟩

set_option maxHeartbeats 1000000 in
set_option maxRecDepth 100000 in
theorem eqMems_any (v v' : Value) (l l' : List (Int × List Int)) (w : World) (h : ListAt w w.heap.size 2 (memR w w.heap.size) v l) (h' : ListAt w w.heap.size 2 (memR w w.heap.size) v' l') :
    Calls Tryd.prog 130 #[v, v', .func (.func 131) #[] #[]] w fun e w' => e = .returned (.bool (decide (l = l'))) ∧ Below w.heap.size w w' := by
  obtain ⟨A, c, rfl, hlc, hcm⟩ := h.form
  obtain ⟨A', c', rfl, hlc', hcm'⟩ := h'.form
  unfold maxLen at hcm hcm'
  have HR := Lib.hid h
  have HR' := Lib.hid h'
  clear h h'
  by_cases hne : l.length = l'.length
  · have HN := Lib.hid hne
    rw [← hne] at HR' hlc' ⊢
    generalize hn : l.length = n at *
    have HL := Lib.hid hn
    clear hn hne
    go_enter Tryd.func130, Tryd.ntmps130
    go_wp2_with fail
    go_loopw [17] (fun i wr => ∃ k : Nat, k ≤ n ∧ i = .int .i64 k ∧ Below w.heap.size w wr ∧ l.take k = l'.take k) (fun i _ => n - (intOf i).toNat)
    case atStart => exact ⟨0, by omega, rfl, Below.refl _ _, by simp⟩
    case round =>
      obtain ⟨k, hk, rfl, hB, htk⟩ := hrel
      have HT := Lib.hid htk
      have HB := Lib.hid hB
      have hsz := hB.size
      clear htk
      by_cases hlt : k < n
      · have hkb : k < l.length := by rw [HL.out]; exact hlt
        have hkb' : k < l'.length := by rw [← HN.out]; exact hlt
        obtain ⟨b, off, rfl, hb, hc⟩ := mems_at HR.out k hkb
        obtain ⟨b', off', rfl, hb', hc'⟩ := mems_at HR'.out k hkb'
        obtain ⟨sv, c1, c2, hsv⟩ := hc k hkb
        obtain ⟨sv', c1', c2', hsv'⟩ := hc' k hkb'
        have hbw : b < wr.heap.size := by omega
        have hbw' : b' < wr.heap.size := by omega
        have c1 := (hB.cell (p := ⟨b, off + k * 2, none⟩) hb).trans c1
        have c2 := (hB.cell (p := ⟨b, off + k * 2 + 1, none⟩) hb).trans c2
        have c1' := (hB.cell (p := ⟨b', off' + k * 2, none⟩) hb').trans c1'
        have c2' := (hB.cell (p := ⟨b', off' + k * 2 + 1, none⟩) hb').trans c2'
        rw [getD_get l k _ hkb] at c1 hsv
        rw [getD_get l' k _ hkb'] at c1' hsv'
        have yes : Hid (l[k] = l'[k] → l.take (k + 1) = l'.take (k + 1)) := Lib.hid (takes_more HT.out hkb hkb')
        have no : Hid (l[k] ≠ l'[k] → decide (l = l') = false) := Lib.hid (lists_differ hkb hkb')
        generalize l[k] = x at *
        generalize l'[k] = x' at *
        obtain ⟨s, sl⟩ := x
        obtain ⟨s', sl'⟩ := x'
        simp only at c1 c1' hsv hsv'
        obtain ⟨A2, k2, e2, _, _⟩ := hsv.form
        obtain ⟨A3, k3, e3, _, _⟩ := hsv'.form
        subst e2 e3
        have hbb := (HB.out.alloc hsz (.cells #[.int .i64 s, .slice A2 sl.length k2] 81)).alloc (by simp; omega) (.cells #[.int .i64 s', .slice A3 sl'.length k3] 81)
        have S1 := Lib.hid ((hsv.moved (below_cellEq hbb) fun _ _ _ h => h).wider hbb.size fun _ _ _ h => h)
        have S2 := Lib.hid ((hsv'.moved (below_cellEq hbb) fun _ _ _ h => h).wider hbb.size fun _ _ _ h => h)
        have HBB := Lib.hid hbb
        clear hkb hkb' hc hc' hsv hsv' hB hbb
        go_wp2_with fail
        refine (same1_any s s' _ _ sl sl' _ S1.out S2.out).mono ?_
        rintro e w2 ⟨rfl, hb2⟩
        have B2 := Lib.hid (HBB.out.trans (hb2.mono HBB.out.size))
        clear hb2 c1 c2 c1' c2'
        cases hd : decide ((s, sl) = (s', sl'))
        · have kn := Lib.hid (no.out (of_decide_eq_false hd))
          go_wp2_with fail
          go_ret
          rw [kn.out]
          exact ⟨rfl, B2.out⟩
        · have kn := Lib.hid (yes.out (of_decide_eq_true hd))
          go_wp2_with fail
          go_roundw
          case rel => exact ⟨k + 1, by omega, by go_num, B2.out, kn.out⟩
          case measure => simp [intOf]; omega
      · obtain rfl : k = n := by omega
        have kn : Hid (decide (l = l') = true) := Lib.hid (takes_equal HL.out HN.out.symm HT.out)
        clear hB
        go_wp2_with fail
        go_ret
        rw [kn.out]
        exact ⟨rfl, HB.out⟩
  · have kn : Hid (decide (l = l') = false) := Lib.hid (by
      rw [decide_eq_false_iff_not]
      rintro rfl
      exact hne rfl)
    have e1 : ((l.length : Int) != (l'.length : Int)) = true := by rw [bne_iff_ne]; omega
    generalize l.length = n at *
    generalize l'.length = n' at *
    go_enter Tryd.func130, Tryd.ntmps130
    go_wp2_with fail
    go_ret
    rw [kn.out]
    exact ⟨rfl, Below.refl _ _⟩
end Go.Proofs.YtbleibmjippmpaaDoor
