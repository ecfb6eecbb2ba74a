/- slices.Equal of ints and of timers. -/
import Derived.Test.YtbleibmjippmpaaDoorRec4
namespace Go.Proofs.YtbleibmjippmpaaDoor
open Go.RowKit

theorem lists_differ {α : Type} [DecidableEq α] {a b : List α} {k : Nat} (ha : k < a.length) (hb : k < b.length) (h : a[k] ≠ b[k]) : decide (a = b) = false := by
  rw [decide_eq_false_iff_not]
  rintro rfl
  exact h rfl
theorem takes_equal {α : Type} [DecidableEq α] {a b : List α} {n : Nat} (ha : a.length = n) (hb : b.length = n) (h : a.take n = b.take n) : decide (a = b) = true := by
  rw [List.take_of_length_le (by omega), List.take_of_length_le (by omega)] at h
  simpa using h
theorem takes_more {α : Type} {a b : List α} {k : Nat} (h : a.take k = b.take k) (ha : k < a.length) (hb : k < b.length) (he : a[k] = b[k]) : a.take (k + 1) = b.take (k + 1) := by
  rw [List.take_succ_eq_append_getElem ha, List.take_succ_eq_append_getElem hb, h, he]

set_option maxHeartbeats 1000000 in
set_option maxRecDepth 100000 in
theorem eqInts_any (v v' : Value) (l l' : List Int) (B B' : Nat) (w : World) (h : ListAt w B 1 intR v l) (h' : ListAt w B' 1 intR v' l') :
    Calls Tryd.prog 132 #[v, v'] w fun e w' => e = .returned (.bool (decide (l = l'))) ∧ ∃ k, w' = w.drewN k := by
  obtain ⟨A, c, rfl, hlc, hcm, hr⟩ := h.one
  obtain ⟨A', c', rfl, hlc', hcm', hr'⟩ := h'.one
  unfold maxLen at hcm hcm'
  have HR := Lib.hid hr
  have HR' := Lib.hid hr'
  clear h h' hr hr'
  by_cases hne : l.length = l'.length
  · have HN := Lib.hid hne
    rw [← hne] at HR' hlc' ⊢
    generalize hn : l.length = n at *
    have HL := Lib.hid hn
    clear hn hne
    go_enter Tryd.func132, Tryd.ntmps132
    go_wp2_with fail
    go_loopw [13] (fun i wr => ∃ k j : Nat, k ≤ n ∧ i = .int .i64 k ∧ wr = w.drewN j ∧ l.take k = l'.take k) (fun i _ => n - (intOf i).toNat)
    case atStart => exact ⟨0, 0, by omega, rfl, rfl, by simp⟩
    case round =>
      obtain ⟨k, j, hk, rfl, rfl, htk⟩ := hrel
      have HT := Lib.hid htk
      clear htk
      by_cases hlt : k < n
      · obtain ⟨b, off, rfl, _, hc⟩ := ints_at HR.out HL.out k hlt
        obtain ⟨b', off', rfl, _, hc'⟩ := ints_at HR'.out HN.out.symm k hlt
        have hkb : k < l.length := by rw [HL.out]; exact hlt
        have hkb' : k < l'.length := by rw [← HN.out]; exact hlt
        have hck := hc k hlt
        have hck' := hc' k hlt
        rw [getD_get l k 0 hkb] at hck
        rw [getD_get l' k 0 hkb'] at hck'
        have g1 : (0 : Int) ≤ (k : Int) := by omega
        have g2 : (k : Int) < (n : Int) := by omega
        have yes : Hid (l[k] = l'[k] → l.take (k + 1) = l'.take (k + 1)) := Lib.hid (takes_more HT.out hkb hkb')
        have no : Hid (l[k] ≠ l'[k] → decide (l = l') = false) := Lib.hid (lists_differ hkb hkb')
        generalize l[k] = x at *
        generalize l'[k] = x' at *
        clear hkb hkb' hc hc'
        by_cases hx : x = x'
        · have kn := Lib.hid (yes.out hx)
          subst hx
          go_wp2_with fail
          go_quiet (fail)
          go_wp2_with fail
          go_roundw
          case rel => exact ⟨k + 1, _, by omega, by go_num, rfl, kn.out⟩
          case measure => simp [intOf]; omega
        · have kn := Lib.hid (no.out hx)
          have e1 : (x != x') = true := by rw [bne_iff_ne]; exact hx
          go_wp2_with fail
          go_quiet (fail)
          go_wp2_with fail
          go_ret
          rw [kn.out]
          exact ⟨rfl, _, World.drewN_drewN _ _ _⟩
      · obtain rfl : k = n := by omega
        have kn : Hid (decide (l = l') = true) := Lib.hid (takes_equal HL.out HN.out.symm HT.out)
        go_wp2_with fail
        go_ret
        rw [kn.out]
        exact ⟨rfl, j, rfl⟩
  · have kn : Hid (decide (l = l') = false) := Lib.hid (by
      rw [decide_eq_false_iff_not]
      rintro rfl
      exact hne rfl)
    have e1 : ((l.length : Int) != (l'.length : Int)) = true := by rw [bne_iff_ne]; omega
    generalize l.length = n at *
    generalize l'.length = n' at *
    go_enter Tryd.func132, Tryd.ntmps132
    go_wp2_with fail
    go_ret
    rw [kn.out]
    exact ⟨rfl, 0, rfl⟩

set_option maxHeartbeats 1000000 in
set_option maxRecDepth 100000 in
theorem eqTms_any (v v' : Value) (l l' : List (List UInt8 × Int)) (B B' : Nat) (w : World) (h : ListAt w B 2 tmR v l) (h' : ListAt w B' 2 tmR v' l') :
    Calls Tryd.prog 133 #[v, v'] w fun e w' => e = .returned (.bool (decide (l = l'))) ∧ ∃ k, w' = w.drewN k := by
  obtain ⟨A, c, rfl, hlc, hcm⟩ := h.form
  obtain ⟨A', c', rfl, hlc', hcm'⟩ := h'.form
  unfold maxLen at hcm hcm'
  have HR := Lib.hid h
  have HR' := Lib.hid h'
  clear h h'
  by_cases hne : l.length = l'.length
  · have HN := Lib.hid hne
    rw [← hne] at HR' hlc' ⊢
    generalize hn : l.length = n at *
    have HL := Lib.hid hn
    clear hn hne
    go_enter Tryd.func133, Tryd.ntmps133
    go_wp2_with fail
    go_loopw [13] (fun i wr => ∃ k j : Nat, k ≤ n ∧ i = .int .i64 k ∧ wr = w.drewN j ∧ l.take k = l'.take k) (fun i _ => n - (intOf i).toNat)
    case atStart => exact ⟨0, 0, by omega, rfl, rfl, by simp⟩
    case round =>
      obtain ⟨k, j, hk, rfl, rfl, htk⟩ := hrel
      have HT := Lib.hid htk
      clear htk
      by_cases hlt : k < n
      · have hkb : k < l.length := by rw [HL.out]; exact hlt
        have hkb' : k < l'.length := by rw [← HN.out]; exact hlt
        obtain ⟨b, off, rfl, _, hc⟩ := tms_at HR.out k hkb
        obtain ⟨b', off', rfl, _, hc'⟩ := tms_at HR'.out k hkb'
        obtain ⟨c1, c2, _⟩ := hc k hkb
        obtain ⟨c1', c2', _⟩ := hc' k hkb'
        rw [getD_get l k _ hkb] at c1 c2
        rw [getD_get l' k _ hkb'] at c1' c2'
        have g1 : (0 : Int) ≤ (k : Int) := by omega
        have g2 : (k : Int) < (n : Int) := by omega
        have yes : Hid (l[k] = l'[k] → l.take (k + 1) = l'.take (k + 1)) := Lib.hid (takes_more HT.out hkb hkb')
        have no : Hid (l[k] ≠ l'[k] → decide (l = l') = false) := Lib.hid (lists_differ hkb hkb')
        generalize l[k] = x at *
        generalize l'[k] = x' at *
        obtain ⟨s, a⟩ := x
        obtain ⟨s', a'⟩ := x'
        simp only at c1 c2 c1' c2'
        clear hkb hkb' hc hc'
        cases hs : (s == s')
        · have kn := Lib.hid (no.out (fun e => by cases e; simp at hs))
          go_wp2_with fail
          go_quiet (fail)
          go_wp2_with fail
          go_ret
          rw [kn.out]
          exact ⟨rfl, _, World.drewN_drewN _ _ _⟩
        · obtain rfl : s = s' := by simpa using hs
          clear hs
          by_cases ha : a = a'
          · have kn := Lib.hid (yes.out (by rw [ha]))
            subst ha
            go_wp2_with fail
            go_quiet (fail)
            go_wp2_with fail
            go_roundw
            case rel => exact ⟨k + 1, _, by omega, by go_num, rfl, kn.out⟩
            case measure => simp [intOf]; omega
          · have kn := Lib.hid (no.out (fun e => by cases e; exact ha rfl))
            have e1 : (a == a') = false := by rw [beq_eq_false_iff_ne]; exact ha
            go_wp2_with fail
            go_quiet (fail)
            go_wp2_with fail
            go_ret
            rw [kn.out]
            exact ⟨rfl, _, World.drewN_drewN _ _ _⟩
      · obtain rfl : k = n := by omega
        have kn : Hid (decide (l = l') = true) := Lib.hid (takes_equal HL.out HN.out.symm HT.out)
        go_wp2_with fail
        go_ret
        rw [kn.out]
        exact ⟨rfl, j, rfl⟩
  · have kn : Hid (decide (l = l') = false) := Lib.hid (by
      rw [decide_eq_false_iff_not]
      rintro rfl
      exact hne rfl)
    have e1 : ((l.length : Int) != (l'.length : Int)) = true := by rw [bne_iff_ne]; omega
    generalize l.length = n at *
    generalize l'.length = n' at *
    go_enter Tryd.func133, Tryd.ntmps133
    go_wp2_with fail
    go_ret
    rw [kn.out]
    exact ⟨rfl, 0, rfl⟩
end Go.Proofs.YtbleibmjippmpaaDoor
