/- The walk of IndexBack. -/
import Derived.Test.YtgakgdohbliaeaaDoorKeys
namespace Go.Proofs.YtgakgdohbliaeaaDoor
open Go.RowKit

set_option maxHeartbeats 4000000 in
set_option maxRecDepth 100000 in
theorem back_any (id other a p : Int) (w : World) (aR : Addr) (hr : Sent w 0 aR) :
    Calls Tryd.prog 6 #[.int .i64 id, .int .i64 other, .agg #[.int .i64 a, .int .i64 p]] w fun e w' => e = .returned (.bool true) ∧ Below w.heap.size w w' := by
  have hB0 := (Below.refl w.heap.size w).alloc (Nat.le_refl _) (.cells #[.int .i64 a, .int .i64 p] 44)
  have HR0 := Lib.hid (hr.below hB0)
  have HB0 := Lib.hid hB0
  have W0 := Lib.hid (Whole.new w 44 #[.int .i64 a, .int .i64 p])
  clear hB0 hr
  go_enter Tryd.func6, Tryd.ntmps6
  go_wp2_with fail
  refine (timerKey_any a id p _ aR HR0.out).mono ?_
  rintro e w1 ⟨s, E, rfl, hb1, h1⟩
  have W1 := W0.out.below hb1 (by simp)
  obtain ⟨p1, p2⟩ := W1.c2
  have hz1 : w.heap.size < w1.heap.size := W1.lt
  have HR1 := Lib.hid (HR0.out.below hb1)
  have HB1 := Lib.hid (HB0.out.trans (hb1.mono (by simp)))
  clear hb1
  rcases h1 with ⟨ok, rfl, rfl⟩ | ⟨no, rfl, hE⟩
  case' inl =>
    have bk := tim_back a.toNat id.toNat p.toNat (by unfold okT at ok; omega) (by unfold okT at ok; omega) (by unfold okT at ok; omega) (by unfold okT at ok; omega)
    have kk := kind_tim a.toNat id.toNat p.toNat (by unfold okT at ok; omega) (by unfold okT at ok; omega) (by unfold okT at ok; omega) (by unfold okT at ok; omega)
    have kl : (timerKey a.toNat id.toNat p.toNat).length ≤ 9223372036854775807 := by simp [timerKey, joinB, bigB_len]
    have e1 : pick3 true a.toNat = a := by unfold okT at ok; simp [pick3]; omega
    have e2 : pick3 true id.toNat = id := by unfold okT at ok; simp [pick3]; omega
    have e3 : pick3 true p.toNat = p := by unfold okT at ok; simp [pick3]; omega
    obtain ⟨b0, b1, b2, b3⟩ := bk
    rw [← b1] at e1
    rw [← b2] at e2
    rw [← b3] at e3
    generalize timerKey a.toNat id.toNat p.toNat = tk at *
    have KK := Lib.hid kk
    have B0 := Lib.hid b0
    have E1 := Lib.hid e1
    have E2 := Lib.hid e2
    have E3 := Lib.hid e3
    clear kk b0 b1 b2 b3 e1 e2 e3 ok
    go_wp2_with fail
    refine (itimer_any tk kl _).mono ?_
    rintro e w2 ⟨rfl, hb2⟩
    rw [B0.out, E1.out, E2.out, E3.out]
    have W2 := W1.below hb2 hz1
    clear p1 p2
    obtain ⟨p1, p2⟩ := W2.c2
    have HR2 := Lib.hid (HR1.out.below hb2)
    have HB2 := Lib.hid (HB1.out.trans (hb2.mono HB1.out.size))
    clear hb2 W1
    go_wp2_with fail
    refine (ikind_any tk kl _).mono ?_
    rintro e wA ⟨rfl, hb3⟩
    rw [KK.out]
    have HRA := Lib.hid (HR2.out.below hb3)
    have HBA := Lib.hid (HB2.out.trans (hb3.mono HB2.out.size))
    clear hb3 p1 p2 W2
    go_wp2_with fail
  case' inr =>
    obtain ⟨wA, rfl⟩ : ∃ wA : World, wA = w1 := ⟨_, rfl⟩
    obtain ⟨t1, v1, rfl⟩ := hE.form
    have HRA := HR1
    have HBA := HB1
    clear hE p1 p2 W1
    go_wp2_with fail
  all_goals
    refine (chartKey_any id _ aR HRA.out).mono ?_
    rintro e w3 ⟨s3, E3, rfl, hb3, h3⟩
    have HR3 := Lib.hid (HRA.out.below hb3)
    have HB3 := Lib.hid (HBA.out.trans (hb3.mono HBA.out.size))
    clear hb3
    go_wp2_with fail
    refine (instKey_any id _ aR HR3.out).mono ?_
    rintro e w4 ⟨s4, E4, rfl, hb4, h4⟩
    have HR4 := Lib.hid (HR3.out.below hb4)
    have HB4 := Lib.hid (HB3.out.trans (hb4.mono HB3.out.size))
    clear hb4
    go_wp2_with fail
    refine (chartKey_any other _ aR HR4.out).mono ?_
    rintro e w5 ⟨s5, E5, rfl, hb5, h5⟩
    have HB5 := Lib.hid (HB4.out.trans (hb5.mono HB4.out.size))
    clear hb5
    rcases h3 with ⟨ok3, rfl, rfl⟩ | ⟨no3, rfl, hE3⟩
    · rcases h4 with ⟨ok4, rfl, rfl⟩ | ⟨no4, -, -⟩
      · have q := num_back 99 (.inl rfl) id.toNat (by unfold okN at ok3; omega) (by unfold okN at ok3; omega)
        have r := num_back 105 (.inr rfl) id.toNat (by unfold okN at ok3; omega) (by unfold okN at ok3; omega)
        have l1 : (99 :: bigB 4 id.toNat).length ≤ 9223372036854775807 := by simp [bigB_len]
        have l2 : (105 :: bigB 4 id.toNat).length ≤ 9223372036854775807 := by simp [bigB_len]
        have nz : ((id.toNat : Nat) : Int) = id := by unfold okN at ok3; omega
        have ne : ((99 :: bigB 4 id.toNat) == (105 :: bigB 4 id.toNat)) = false := rfl
        have fin : Hid (∃ t v, E5 = .iface t v) ∨ Hid (E5 = .nilIface ∧ ((99 :: bigB 4 id.toNat) == s5) = (id == other)) := by
          rcases h5 with ⟨ok5, rfl, rfl⟩ | ⟨no5, -, hE5⟩
          · refine .inr (Lib.hid ⟨rfl, ?_⟩)
            rw [Bool.eq_iff_iff]
            simp only [beq_iff_eq, List.cons.injEq, true_and]
            constructor
            · intro h
              have := bigB_inj 4 _ _ (by unfold okN at ok3; omega) (by unfold okN at ok5; omega) h
              unfold okN at ok3 ok5
              omega
            · rintro rfl
              rfl
          · exact .inl (Lib.hid hE5.form)
        clear h5
        obtain ⟨q1, q2⟩ := q
        obtain ⟨r1, r2⟩ := r
        generalize (99 :: bigB 4 id.toNat) = k1 at *
        generalize (105 :: bigB 4 id.toNat) = k2 at *
        have Q := Lib.hid (show numOK k1 = true ∧ ((numOf k1 : Nat) : Int) = id from ⟨q1, by rw [q2]; exact nz⟩)
        have R := Lib.hid (show numOK k2 = true ∧ ((numOf k2 : Nat) : Int) = id from ⟨r1, by rw [r2]; exact nz⟩)
        clear q1 q2 r1 r2 nz
        go_wp2_with fail
        refine (inumber_any k1 l1 _).mono ?_
        rintro e w6 ⟨rfl, hb6⟩
        rw [Q.out.1, Q.out.2]
        have HB6 := Lib.hid (HB5.out.trans (hb6.mono HB5.out.size))
        clear hb6
        go_wp2_with fail
        refine (inumber_any k2 l2 _).mono ?_
        rintro e w7 ⟨rfl, hb7⟩
        rw [R.out.1, R.out.2]
        have HB7 := Lib.hid (HB6.out.trans (hb7.mono HB6.out.size))
        clear hb7
        rcases fin with fin | fin
        · obtain ⟨t5, v5, rfl⟩ := fin.out
          clear fin
          go_wp2_with (go_at_call 11; refine (awake35 _).mono ?_; rintro e w8 ⟨rfl, hb8⟩)
          go_ret
          exact ⟨rfl, HB7.out.trans (hb8.mono HB7.out.size)⟩
        · obtain ⟨rfl, hq⟩ := fin.out
          clear fin
          go_wp2_with (go_at_call 11; refine (awake35 _).mono ?_; rintro e w8 ⟨rfl, hb8⟩)
          go_ret
          exact ⟨rfl, HB7.out.trans (hb8.mono HB7.out.size)⟩
      · exact absurd ok3 no4
    · obtain ⟨t3, v3, rfl⟩ := hE3.form
      have hid : id < 1 ∨ 2147483647 < id := by unfold okN at no3; omega
      clear h4 h5 hE3 no3
      rcases hid with hid | hid
      · go_wp2_with (go_at_call 11; refine (awake35 _).mono ?_; rintro e w8 ⟨rfl, hb8⟩)
        go_ret
        exact ⟨rfl, HB5.out.trans (hb8.mono HB5.out.size)⟩
      · go_wp2_with (go_at_call 11; refine (awake35 _).mono ?_; rintro e w8 ⟨rfl, hb8⟩)
        go_ret
        exact ⟨rfl, HB5.out.trans (hb8.mono HB5.out.size)⟩
end Go.Proofs.YtgakgdohbliaeaaDoor
