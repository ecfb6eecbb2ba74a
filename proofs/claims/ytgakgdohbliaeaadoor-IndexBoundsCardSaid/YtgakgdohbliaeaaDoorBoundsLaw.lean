/- The walk of IndexBounds. -/
import Derived.Test.YtgakgdohbliaeaaDoorBoundsWalk
namespace Go.Proofs.YtgakgdohbliaeaaDoor
open Go.RowKit

set_option maxHeartbeats 4000000 in
set_option maxRecDepth 100000 in
theorem boundsLaw_any (kb : Int) (h0 : 0 ≤ kb) (h1 : kb ≤ 255) (l : List UInt8) (hl : l.length ≤ 9223372036854775807) (now : Int) (w : World) (ad : Nat → Addr) (hs : Sents w ad) :
    Calls Tryd.prog 5 #[.int .u8 kb, .string ⟨l.toArray⟩, .int .i64 now] w fun e w' => e = .returned (.bool true) ∧ Below w.heap.size w w' := by
  have S0 := Lib.hid hs
  clear hs
  go_enter Tryd.func5, Tryd.ntmps5
  go_wp2_with fail
  refine (bounds_any kb _).mono ?_
  rintro e w1 ⟨rfl, hb1⟩
  have S1 := Lib.hid (S0.out.below hb1)
  have HB1 := Lib.hid hb1
  clear hb1
  go_upto_region 2 with (fail)
  go_cut [9] (fun v9 W => v9 = .bool (knownB kb) ∧ W = w1)
  case first =>
    by_cases q1 : (kb == 109) = true
    · go_wp2_with fail
      go_meet
      exact ⟨by simp at q1; simp [knownB, q1], rfl⟩
    have q1 : (kb == 109) = false := Bool.eq_false_iff.2 q1
    by_cases q2 : (kb == 99) = true
    · go_wp2_with fail
      go_meet
      exact ⟨by simp at q2; simp [knownB, q2], rfl⟩
    have q2 : (kb == 99) = false := Bool.eq_false_iff.2 q2
    by_cases q3 : (kb == 110) = true
    · go_wp2_with fail
      go_meet
      exact ⟨by simp at q3; simp [knownB, q3], rfl⟩
    have q3 : (kb == 110) = false := Bool.eq_false_iff.2 q3
    by_cases q4 : (kb == 105) = true
    · go_wp2_with fail
      go_meet
      exact ⟨by simp at q4; simp [knownB, q4], rfl⟩
    have q4 : (kb == 105) = false := Bool.eq_false_iff.2 q4
    go_wp2_with fail
    go_meet
    refine ⟨?_, rfl⟩
    simp only [beq_eq_false_iff_ne] at q1 q2 q3 q4
    simp [knownB, q1, q2, q3, q4]
    rfl
  case rest =>
    obtain ⟨rfl, rfl⟩ := hcut
    have P0 : Hid ((knownB kb = true ∧ ∃ k : UInt8, kb = k.toNat ∧ (k = 109 ∨ k = 99 ∨ k = 110 ∨ k = 105 ∨ k = 116) ∧ bFrom kb = [k] ∧ bTo kb = [k + 1]) ∨ (knownB kb = false ∧ bFrom kb = [] ∧ bTo kb = [])) := Lib.hid (by
      by_cases hk : knownB kb = true
      · refine .inl ⟨hk, UInt8.ofNat kb.toNat, ?_, ?_, by rw [bFrom, if_pos hk], ?_⟩
        · simp only [UInt8.toNat_ofNat']
          omega
        · simp [knownB] at hk
          rcases hk with rfl | rfl | rfl | rfl | rfl <;> decide
        · rw [bTo, if_pos hk]
          simp [knownB] at hk
          rcases hk with rfl | rfl | rfl | rfl | rfl <;> decide
      · exact .inr ⟨Bool.eq_false_iff.2 hk, by rw [bFrom, if_neg hk], by rw [bTo, if_neg hk]⟩)
    generalize bFrom kb = fr at *
    generalize bTo kb = tt at *
    generalize hkn : knownB kb = kn at *
    clear hkn
    have hne1 : Hid (fr.isEmpty = !kn ∧ tt.isEmpty = !kn) := Lib.hid (by
      rcases P0.out with ⟨rfl, k, _, _, rfl, rfl⟩ | ⟨rfl, rfl, rfl⟩ <;> exact ⟨rfl, rfl⟩)
    obtain ⟨n1, n2⟩ := hne1.out
    clear hne1
    go_wp2_with fail
    refine (rkind_any l hl _).mono ?_
    rintro e w2 ⟨rfl, hb2⟩
    have S2 := Lib.hid (S1.out.below hb2)
    have HB2 := Lib.hid (HB1.out.trans (hb2.mono HB1.out.size))
    clear hb2 n1 n2
    have KO : Hid (kindOf l = if kindOK l then (hd l).toNat else 0) := Lib.hid rfl
    have KN : Hid (kindOK l = true → ((hd l).toNat : Int) ≠ 0) := Lib.hid (by
      intro h
      have hcc : hd l = 109 ∨ (hd l = 99 ∨ hd l = 105) ∨ hd l = 110 ∨ hd l = 116 := by
        simp only [kindOK, Bool.or_eq_true] at h
        rcases h with ((h | h) | h) | h
        · exact .inl (eqm_head l h)
        · exact .inr (.inl (num_head l h))
        · exact .inr (.inr (.inl (name_head l h)))
        · exact .inr (.inr (.inr (tim_head l h)))
      rcases hcc with e | (e | e) | e | e <;> rw [e] <;> decide)
    go_upto_region 6 with (fail)
    go_cut [71] (fun v71 W => v71 = .bool false ∧ W = w2)
    case first =>
      by_cases hk : kindOK l = true
      · have hko : kindOf l = (hd l).toNat := by rw [KO.out, if_pos hk]
        have hnz : ((kindOf l : Int) != 0) = true := by rw [bne_iff_ne, hko]; exact KN.out hk
        rcases P0.out with ⟨rfl, k, hkb, hkk, rfl, rfl⟩ | ⟨rfl, rfl, rfl⟩
        · have hbt := between_kind l k hkk hk
          have heq : ((kindOf l : Int) == kb) = (!(Op.bytesLess l [k]) && Op.bytesLess l [k + 1]) := by
            rw [hbt, u8_eq, hko, hkb]
            simp [bne]
          clear hbt hko hkb
          by_cases b1 : Op.bytesLess l [k] = true
          · rw [b1] at heq
            go_wp2_with fail
            go_meet
            exact ⟨rfl, rfl⟩
          · have b1 : Op.bytesLess l [k] = false := Bool.eq_false_iff.2 b1
            rw [b1] at heq
            simp only [Bool.not_false, Bool.true_and] at heq
            go_wp2_with fail
            go_meet
            exact ⟨by simp, rfl⟩
        · clear hko
          go_wp2_with fail
          go_meet
          exact ⟨rfl, rfl⟩
      · have hko : ((kindOf l : Int) != 0) = false := by
          rw [KO.out, if_neg hk]
          rfl
        go_wp2_with fail
        go_meet
        exact ⟨rfl, rfl⟩
    case rest =>
      obtain ⟨rfl, rfl⟩ := hcut
      go_wp2_with fail
      refine (until_any now _ (ad 2) S2.out.s2).mono ?_
      rintro e w3 ⟨s3, t3, E3, rfl, hb3, h3⟩
      have S3 := Lib.hid (S2.out.below hb3)
      have HB3 := Lib.hid (HB2.out.trans (hb3.mono HB2.out.size))
      clear hb3
      rcases h3 with ⟨hc, rfl, rfl, rfl⟩ | ⟨hc, rfl, rfl, hE⟩
      · obtain ⟨c1, c2⟩ : 0 ≤ now ∧ now ≤ 1099511627776 := by simpa [clockB] using hc
        go_wp2_with fail
        refine (rtimer_any l hl _).mono ?_
        rintro e w4 ⟨rfl, hb4⟩
        have HB4 := Lib.hid (HB3.out.trans (hb4.mono HB3.out.size))
        clear hb4
        by_cases hk : kindOK l = true
        · have hko : kindOf l = (hd l).toNat := by rw [KO.out, if_pos hk]
          have hnz : ((kindOf l : Int) == 0) = false := by rw [beq_eq_false_iff_ne, hko]; exact KN.out hk
          clear hko
          by_cases hT : timOK l = true
          · have hu := until_tim l now.toNat (by omega) hT
            have hle : decide (pick3 (timOK l) (tA l) ≤ now) = (!(Op.bytesLess l [116]) && Op.bytesLess l (116 :: bigB 6 (now.toNat + 1))) := by
              rw [hu, hT, Bool.eq_iff_iff]
              simp [pick3]
              omega
            rw [hT] at hle ⊢
            clear hu
            by_cases b1 : Op.bytesLess l [116] = true
            · rw [b1] at hle
              simp only [Bool.not_true, Bool.false_and] at hle
              go_wp2_with (go_at_call 11; refine (awake35 _).mono ?_; rintro e w5 ⟨rfl, hb5⟩)
              go_ret
              exact ⟨rfl, HB4.out.trans (hb5.mono HB4.out.size)⟩
            · have b1 : Op.bytesLess l [116] = false := Bool.eq_false_iff.2 b1
              rw [b1] at hle
              simp only [Bool.not_false, Bool.true_and] at hle
              by_cases b2 : Op.bytesLess l (116 :: bigB 6 (now.toNat + 1)) = true
              · rw [b2] at hle
                go_wp2_with (go_at_call 11; refine (awake35 _).mono ?_; rintro e w5 ⟨rfl, hb5⟩)
                go_ret
                exact ⟨rfl, HB4.out.trans (hb5.mono HB4.out.size)⟩
              · have b2 : Op.bytesLess l (116 :: bigB 6 (now.toNat + 1)) = false := Bool.eq_false_iff.2 b2
                rw [b2] at hle
                go_wp2_with (go_at_call 11; refine (awake35 _).mono ?_; rintro e w5 ⟨rfl, hb5⟩)
                go_ret
                exact ⟨rfl, HB4.out.trans (hb5.mono HB4.out.size)⟩
          · have hT : timOK l = false := Bool.eq_false_iff.2 hT
            have hu := until_not l (116 :: bigB 6 (now.toNat + 1)) hk hT
            rw [hT]
            by_cases b1 : Op.bytesLess l [116] = true
            · go_wp2_with (go_at_call 11; refine (awake35 _).mono ?_; rintro e w5 ⟨rfl, hb5⟩)
              go_ret
              exact ⟨rfl, HB4.out.trans (hb5.mono HB4.out.size)⟩
            · have b1 : Op.bytesLess l [116] = false := Bool.eq_false_iff.2 b1
              rw [b1] at hu
              simp only [Bool.not_false, Bool.true_and] at hu
              go_wp2_with (go_at_call 11; refine (awake35 _).mono ?_; rintro e w5 ⟨rfl, hb5⟩)
              go_ret
              exact ⟨rfl, HB4.out.trans (hb5.mono HB4.out.size)⟩
        · have hz : ((kindOf l : Int) == 0) = true := by
            rw [KO.out, if_neg hk]
            rfl
          go_wp2_with (go_at_call 11; refine (awake35 _).mono ?_; rintro e w5 ⟨rfl, hb5⟩)
          go_ret
          exact ⟨rfl, HB4.out.trans (hb5.mono HB4.out.size)⟩
      · have hn : now < 0 ∨ 1099511627776 < now := by
          have : ¬ (0 ≤ now ∧ now ≤ 1099511627776) := by simpa [clockB] using hc
          omega
        have HE := Lib.hid hE
        clear hE hc
        rcases hn with hn | hn
        all_goals
          go_wp2_with (first
            | (go_at_call 23; refine (tells_err S3.out 2 (by omega) 1 _ HE.out 2 rfl).mono ?_; rintro e w' ⟨rfl, rfl⟩)
            | (go_at_call 11; refine (awake35 _).mono ?_; rintro e w5 ⟨rfl, hb5⟩))
          go_ret
          exact ⟨rfl, HB3.out.trans (hb5.mono HB3.out.size)⟩
end Go.Proofs.YtgakgdohbliaeaaDoor
