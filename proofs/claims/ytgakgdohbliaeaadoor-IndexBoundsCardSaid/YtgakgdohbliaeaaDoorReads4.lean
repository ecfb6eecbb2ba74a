/- index.Kind and the document's; the law IndexReads. -/
import Derived.Test.YtgakgdohbliaeaaDoorReads3
namespace Go.Proofs.YtgakgdohbliaeaaDoor
open Go.RowKit

theorem kind_head (l : List UInt8) : (l == [109]) = true ∨ numOK l = true ∨ nameOK l = true ∨ timOK l = true ↔ kindOK l = true := by
  simp [kindOK, or_assoc]
theorem eqm_head (l : List UInt8) (h : (l == [109]) = true) : hd l = 109 := by
  have : l = [109] := by simpa using h
  rw [this]
  rfl
theorem num_head (l : List UInt8) (h : numOK l = true) : hd l = 99 ∨ hd l = 105 := by
  simp only [numOK, Bool.and_eq_true, Bool.or_eq_true, beq_iff_eq] at h
  exact h.1.2
theorem name_head (l : List UInt8) (h : nameOK l = true) : hd l = 110 := by
  simp only [nameOK, Bool.and_eq_true, beq_iff_eq] at h
  exact h.1.2
theorem tim_head (l : List UInt8) (h : timOK l = true) : hd l = 116 := by
  simp only [timOK, Bool.and_eq_true, beq_iff_eq] at h
  exact h.1.1.1.2
theorem kind_at (l : List UInt8) (b : Bool) (h : (hd l = 109 ∧ b = (l == [109])) ∨ ((hd l = 99 ∨ hd l = 105) ∧ b = numOK l) ∨ (hd l = 110 ∧ b = nameOK l) ∨ (hd l = 116 ∧ b = timOK l) ∨
    (hd l ≠ 109 ∧ hd l ≠ 99 ∧ hd l ≠ 105 ∧ hd l ≠ 110 ∧ hd l ≠ 116 ∧ b = false)) : kindOK l = b := by
  have h1 := eqm_head l
  have h2 := num_head l
  have h3 := name_head l
  have h4 := tim_head l
  unfold kindOK
  generalize (l == [109]) = x1 at *
  generalize numOK l = x2 at *
  generalize nameOK l = x3 at *
  generalize timOK l = x4 at *
  generalize hd l = c at *
  rcases h with ⟨rfl, hb⟩ | ⟨rfl | rfl, hb⟩ | ⟨rfl, hb⟩ | ⟨rfl, hb⟩ | ⟨a1, a2, a3, a4, a5, hb⟩
  · cases x1 <;> cases x2 <;> cases x3 <;> cases x4 <;> simp_all
  · cases x1 <;> cases x2 <;> cases x3 <;> cases x4 <;> simp_all
  · cases x1 <;> cases x2 <;> cases x3 <;> cases x4 <;> simp_all
  · cases x1 <;> cases x2 <;> cases x3 <;> cases x4 <;> simp_all
  · cases x1 <;> cases x2 <;> cases x3 <;> cases x4 <;> simp_all
  · cases x1 <;> cases x2 <;> cases x3 <;> cases x4 <;> simp_all

theorem u8_bne (c k : UInt8) (h : c ≠ k) : ((c.toNat : Int) == k.toNat) = false := by
  rw [beq_eq_false_iff_ne]
  exact fun e => h ((u8_prop c k).mp e)

set_option maxHeartbeats 2000000 in
set_option maxRecDepth 100000 in
theorem ikind_any (l : List UInt8) (hl : l.length ≤ 9223372036854775807) (w : World) :
    Calls Tryd.prog 13 #[.string ⟨l.toArray⟩] w fun e w' => e = .returned (.int .u8 (kindOf l)) ∧ Below w.heap.size w w' := by
  by_cases hne : l = []
  · subst hne
    go_enter Tryd.func13, Tryd.ntmps13
    go_wp2_with fail
    go_ret
    exact ⟨rfl, Below.refl _ _⟩
  · obtain ⟨_, hpos, hh, h0, -, -⟩ := Txt.of Tryd.underlying9 l (by omega) hne
    have hemp : l.isEmpty = false := by simpa using hne
    have hK : Hid (kindOf l = if kindOK l then (hd l).toNat else 0) := Lib.hid rfl
    have hA := Lib.hid (kind_at l)
    have hl' : l.length ≤ 9223372036854775807 := by omega
    generalize kindOf l = ko at *
    by_cases c1 : hd l = 109
    · have hk := Lib.hid (hA.out _ (.inl ⟨c1, rfl⟩))
      rw [c1] at h0 hK
      clear hne hh hA
      generalize kindOK l = kk at *
      by_cases m1 : (l == [109]) = true
      · rw [m1] at hk
        rw [hk.out] at hK
        go_enter Tryd.func13, Tryd.ntmps13
        go_wp2_with fail
        go_ret
        rw [hK.out]
        exact ⟨rfl, Below.refl _ _⟩
      · have m1 : (l == [109]) = false := Bool.eq_false_iff.2 m1
        rw [m1] at hk
        rw [hk.out] at hK
        go_enter Tryd.func13, Tryd.ntmps13
        go_wp2_with fail
        go_ret
        rw [hK.out]
        exact ⟨rfl, Below.refl _ _⟩
    by_cases c2 : hd l = 99 ∨ hd l = 105
    · have hk := Lib.hid (hA.out _ (.inr (.inl ⟨c2, rfl⟩)))
      clear hne hA c1
      generalize kindOK l = kk at *
      rw [hk.out] at hK
      have fin : ∀ c : UInt8, hd l = c → (c = 99 ∨ c = 105) → Calls Tryd.prog 13 #[.string ⟨l.toArray⟩] w fun e w' => e = .returned (.int .u8 ko) ∧ Below w.heap.size w w' := by
        intro c hc hcc
        rw [hc] at h0 hK
        clear hh hc c2
        rcases hcc with rfl | rfl
        all_goals
          by_cases m1 : numOK l = true
          · rw [m1] at hK
            go_enter Tryd.func13, Tryd.ntmps13
            go_wp2_with (go_at_call 15; refine (inumber_any l hl' _).mono ?_; rintro e w1 ⟨rfl, hb1⟩)
            go_ret
            rw [hK.out]
            exact ⟨rfl, hb1⟩
          · have m1 : numOK l = false := Bool.eq_false_iff.2 m1
            rw [m1] at hK
            go_enter Tryd.func13, Tryd.ntmps13
            go_wp2_with (go_at_call 15; refine (inumber_any l hl' _).mono ?_; rintro e w1 ⟨rfl, hb1⟩)
            go_ret
            rw [hK.out]
            exact ⟨rfl, hb1⟩
      exact fin _ rfl c2
    by_cases c3 : hd l = 110
    · have hk := Lib.hid (hA.out _ (.inr (.inr (.inl ⟨c3, rfl⟩))))
      rw [c3] at h0 hK
      clear hne hh hA c1 c2
      generalize kindOK l = kk at *
      rw [hk.out] at hK
      by_cases m1 : nameOK l = true
      · rw [m1] at hK
        go_enter Tryd.func13, Tryd.ntmps13
        go_wp2_with (go_at_call 17; refine (iname_any l hl' _).mono ?_; rintro e w1 ⟨rfl, rfl⟩)
        go_ret
        rw [hK.out]
        exact ⟨rfl, Below.refl _ _⟩
      · have m1 : nameOK l = false := Bool.eq_false_iff.2 m1
        rw [m1] at hK
        go_enter Tryd.func13, Tryd.ntmps13
        go_wp2_with (go_at_call 17; refine (iname_any l hl' _).mono ?_; rintro e w1 ⟨rfl, rfl⟩)
        go_ret
        rw [hK.out]
        exact ⟨rfl, Below.refl _ _⟩
    by_cases c4 : hd l = 116
    · have hk := Lib.hid (hA.out _ (.inr (.inr (.inr (.inl ⟨c4, rfl⟩)))))
      rw [c4] at h0 hK
      clear hne hh hA c1 c2 c3
      generalize kindOK l = kk at *
      rw [hk.out] at hK
      by_cases m1 : timOK l = true
      · rw [m1] at hK
        go_enter Tryd.func13, Tryd.ntmps13
        go_wp2_with (go_at_call 19; refine (itimer_any l hl _).mono ?_; rintro e w1 ⟨rfl, hb1⟩)
        go_ret
        rw [hK.out]
        exact ⟨rfl, hb1⟩
      · have m1 : timOK l = false := Bool.eq_false_iff.2 m1
        rw [m1] at hK
        go_enter Tryd.func13, Tryd.ntmps13
        go_wp2_with (go_at_call 19; refine (itimer_any l hl _).mono ?_; rintro e w1 ⟨rfl, hb1⟩)
        go_ret
        rw [hK.out]
        exact ⟨rfl, hb1⟩
    · have hk := Lib.hid (hA.out false (.inr (.inr (.inr (.inr ⟨c1, fun h => c2 (.inl h), fun h => c2 (.inr h), c3, c4, rfl⟩)))))
      have d1 : (((hd l).toNat : Int) == 109) = false := u8_bne _ 109 c1
      have d2 : (((hd l).toNat : Int) == 99) = false := u8_bne _ 99 (fun h => c2 (.inl h))
      have d3 : (((hd l).toNat : Int) == 105) = false := u8_bne _ 105 (fun h => c2 (.inr h))
      have d4 : (((hd l).toNat : Int) == 110) = false := u8_bne _ 110 c3
      have d5 : (((hd l).toNat : Int) == 116) = false := u8_bne _ 116 c4
      generalize hd l = c at *
      clear hne hh hA c1 c2 c3 c4
      generalize kindOK l = kk at *
      rw [hk.out] at hK
      go_enter Tryd.func13, Tryd.ntmps13
      go_wp2_with fail
      go_ret
      rw [hK.out]
      exact ⟨rfl, Below.refl _ _⟩

set_option maxHeartbeats 2000000 in
set_option maxRecDepth 100000 in
theorem rkind_any (l : List UInt8) (hl : l.length ≤ 9223372036854775807) (w : World) :
    Calls Tryd.prog 14 #[.string ⟨l.toArray⟩] w fun e w' => e = .returned (.int .u8 (kindOf l)) ∧ Below w.heap.size w w' := by
  have hl' : l.length ≤ 9223372036854775807 := by omega
  have hK : Hid (kindOf l = if (l == [109]) || numOK l || nameOK l || timOK l then (hd l).toNat else 0) := Lib.hid rfl
  have h0 : (∃ h : 0 < l.length, (ByteArray.mk l.toArray)[0]'(by simpa [ByteArray.size] using h) = hd l) ∨ (l == [109]) = false ∧ numOK l = false ∧ nameOK l = false ∧ timOK l = false := by
    by_cases hne : l = []
    · subst hne
      exact .inr ⟨rfl, rfl, rfl, rfl⟩
    · have := Txt.of Tryd.underlying9 l hl' hne
      exact .inl ⟨this.pos, this.at0⟩
  have n1 := Lib.hid (fun W => inumber_any l hl' W)
  go_enter Tryd.func14, Tryd.ntmps14
  go_wp2_with fail
  refine (rnum_any l hl' _).mono ?_
  rintro e w1 ⟨rfl, hb1⟩
  go_wp2_with fail
  refine (rnam_any l hl _).mono ?_
  rintro e w' ⟨rfl, rfl⟩
  go_wp2_with fail
  refine (rtimer_any l hl _).mono ?_
  rintro e w2 ⟨rfl, hb2⟩
  have HB := Lib.hid (hb1.trans (hb2.mono hb1.size))
  clear hb1 hb2 n1
  generalize hm : (l == [109]) = x1 at *
  generalize numOK l = x2 at *
  generalize nameOK l = x3 at *
  generalize timOK l = x4 at *
  rcases h0 with ⟨hpos, h0⟩ | ⟨rfl, rfl, rfl, rfl⟩
  · generalize hd l = c at *
    cases x1 <;> cases x2 <;> cases x3 <;> cases x4
    all_goals
      go_wp2_with fail
      go_ret
      rw [hK.out]
      exact ⟨rfl, HB.out⟩
  · go_wp2_with fail
    go_ret
    rw [hK.out]
    exact ⟨rfl, HB.out⟩

set_option maxHeartbeats 2000000 in
set_option maxRecDepth 100000 in
theorem reads_any (l : List UInt8) (hl : l.length ≤ 9223372036854775807) (w : World) :
    Calls Tryd.prog 4 #[.string ⟨l.toArray⟩] w fun e w' => e = .returned (.bool true) ∧ Below w.heap.size w w' := by
  have hl' : l.length ≤ 9223372036854775807 := by omega
  go_enter Tryd.func4, Tryd.ntmps4
  go_wp2_with fail
  refine (ikind_any l hl _).mono ?_
  rintro e w1 ⟨rfl, hb1⟩
  go_wp2_with fail
  refine (rkind_any l hl _).mono ?_
  rintro e w2 ⟨rfl, hb2⟩
  have HB2 := Lib.hid (hb1.trans (hb2.mono hb1.size))
  clear hb1 hb2
  go_wp2_with fail
  refine (inumber_any l hl' _).mono ?_
  rintro e w3 ⟨rfl, hb3⟩
  have HB3 := Lib.hid (HB2.out.trans (hb3.mono HB2.out.size))
  clear hb3
  go_wp2_with fail
  refine (rnum_any l hl' _).mono ?_
  rintro e w4 ⟨rfl, hb4⟩
  have HB4 := Lib.hid (HB3.out.trans (hb4.mono HB3.out.size))
  clear hb4
  go_wp2_with fail
  refine (iname_any l hl' _).mono ?_
  rintro e w' ⟨rfl, rfl⟩
  go_wp2_with fail
  refine (rnam_any l hl _).mono ?_
  rintro e w' ⟨rfl, rfl⟩
  go_wp2_with fail
  refine (itimer_any l hl _).mono ?_
  rintro e w5 ⟨rfl, hb5⟩
  have HB5 := Lib.hid (HB4.out.trans (hb5.mono HB4.out.size))
  clear hb5
  go_wp2_with fail
  refine (rtimer_any l hl _).mono ?_
  rintro e w6 ⟨rfl, hb6⟩
  have HB6 := Lib.hid (HB5.out.trans (hb6.mono HB5.out.size))
  clear hb6
  go_wp2_with (go_at_call 11; refine (awake35 _).mono ?_; rintro e w7 ⟨rfl, hb7⟩)
  go_ret
  exact ⟨rfl, HB6.out.trans (hb7.mono HB6.out.size)⟩
end Go.Proofs.YtgakgdohbliaeaaDoor
