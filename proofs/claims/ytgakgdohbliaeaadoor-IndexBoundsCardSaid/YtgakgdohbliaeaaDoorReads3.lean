/- index.Timer, index.Kind and the document's. -/
import Derived.Test.YtgakgdohbliaeaaDoorReads2
namespace Go.Proofs.YtgakgdohbliaeaaDoor
open Go.RowKit

def pick3 (b : Bool) (x : Nat) : Int := if b then x else 0
theorem timOK_no (l : List UInt8) (h : ¬ (l.length = 12 ∧ hd l = 116)) : timOK l = false := by
  unfold timOK
  by_cases h1 : l.length = 12
  · have : (hd l == 116) = false := by simp; exact fun e => h ⟨h1, e⟩
    simp [this]
  · simp [h1]
theorem timOK_yes (l : List UInt8) (h1 : l.length = 12) (h2 : hd l = 116) : timOK l = (clockB (tA l) && numberB (tI l) && decide (tP l < 8)) := by
  simp [timOK, h1, h2]

/-- The three parts of a text of twelve bytes. -/
theorem parts12 {P : Program} {ts : TypeId} (h : P.underlying ts = some .string) (l : List UInt8) (hl : l.length = 12) :
    (∀ W : World, (Instr.slice ts (.string ⟨l.toArray⟩) (some (.int .i64 1)) (some (.int .i64 7)) none).run P W = .ok (.string ⟨((l.drop 1).take 6).toArray⟩) W) ∧
    (∀ W : World, (Instr.slice ts (.string ⟨l.toArray⟩) (some (.int .i64 7)) (some (.int .i64 11)) none).run P W = .ok (.string ⟨((l.drop 7).take 4).toArray⟩) W) ∧
    (∀ W : World, (Instr.slice ts (.string ⟨l.toArray⟩) (some (.int .i64 11)) none none).run P W = .ok (.string ⟨(l.drop 11).toArray⟩) W) :=
  ⟨fun W => run_mid h l 1 7 (by decide) (by decide) (by omega) W, fun W => run_mid h l 7 11 (by decide) (by decide) (by omega) W, fun W => run_from h l 11 (by decide) (by omega) W⟩

set_option maxHeartbeats 2000000 in
set_option maxRecDepth 100000 in
theorem rtimer_any (l : List UInt8) (hl : l.length ≤ 9223372036854775807) (w : World) :
    Calls Tryd.prog 20 #[.string ⟨l.toArray⟩] w fun e w' => e = .returned (.tuple #[.int .i64 (pick3 (timOK l) (tA l)), .int .i64 (pick3 (timOK l) (tI l)), .int .i64 (pick3 (timOK l) (tP l)), .bool (timOK l)]) ∧ Below w.heap.size w w' := by
  by_cases h12 : l.length = 12
  · have hne : l ≠ [] := by rintro rfl; simp at h12
    obtain ⟨_, hpos, hh, h0, ht1, hd1⟩ := Txt.of Tryd.underlying9 l (by omega) hne
    obtain ⟨p1, p2, p3⟩ := parts12 Tryd.underlying9 l h12
    have e12 : ((l.length : Int) != 12) = false := by rw [h12]; rfl
    have r1 : ((l.drop 1).take 6).length ≤ 6 := by simp; omega
    have r2 : ((l.drop 7).take 4).length ≤ 6 := by simp; omega
    have r3 : (l.drop 11).length ≤ 6 := by simp; omega
    by_cases hc : hd l = 116
    · have hT := timOK_yes l h12 hc
      have hcode : Hid (tkCode (tA l) (tI l) (tP l) = if timOK l then 0 else 2) := by
        refine Lib.hid ?_
        rw [hT, tkCode]
        have : okT (tA l) (tI l) (tP l) ↔ (clockB (tA l) && numberB (tI l) && decide (tP l < 8)) = true := by
          simp [okT, clockB, numberB]
          omega
        by_cases hk : okT (tA l) (tI l) (tP l)
        · rw [if_pos hk, if_pos (this.1 hk)]
        · rw [if_neg hk, if_neg (fun h => hk (this.2 h))]
      rw [hc] at h0 ht1
      unfold tA tI tP at *
      generalize (l.drop 1).take 6 = x1 at *
      generalize (l.drop 7).take 4 = x2 at *
      generalize l.drop 11 = x3 at *
      clear hT hc hh hne h12 hd1
      generalize timOK l = tk at *
      go_enter Tryd.func20, Tryd.ntmps20
      go_wp2_with fail
      refine (small_any x1 r1 _).mono ?_
      rintro e w' ⟨rfl, rfl⟩
      go_wp2_with fail
      refine (small_any x2 r2 _).mono ?_
      rintro e w' ⟨rfl, rfl⟩
      go_wp2_with fail
      refine (small_any x3 r3 _).mono ?_
      rintro e w' ⟨rfl, rfl⟩
      go_wp2_with fail
      refine (rtimerKey_any _ _ _ _).mono ?_
      rintro e w1 ⟨rfl, hb1⟩
      rw [hcode.out]
      cases tk
      all_goals
        go_wp2_with fail
        refine bodyPost_ret (by simp [results, Tryd.results20, go_sem]; rfl) rfl ?_
        exact ⟨rfl, hb1⟩
    · have kn := Lib.hid (timOK_no l (fun h => hc h.2))
      have hc' : (hd l == 116) = false := by simp [hc]
      generalize hd l = c at *
      clear h12 hh hne hd1 p1 p2 p3 h0
      generalize timOK l = tk at *
      go_enter Tryd.func20, Tryd.ntmps20
      go_wp2_with fail
      refine bodyPost_ret (by simp [results, Tryd.results20, go_sem]; rfl) rfl ?_
      rw [kn.out]
      exact ⟨rfl, Below.refl _ _⟩
  · have kn := Lib.hid (timOK_no l (fun h => h12 h.1))
    have e12 : ((l.length : Int) != 12) = true := by rw [bne_iff_ne]; omega
    generalize timOK l = tk at *
    clear h12
    go_enter Tryd.func20, Tryd.ntmps20
    go_wp2_with fail
    refine bodyPost_ret (by simp [results, Tryd.results20, go_sem]; rfl) rfl ?_
    rw [kn.out]
    exact ⟨rfl, Below.refl _ _⟩

set_option maxHeartbeats 2000000 in
set_option maxRecDepth 100000 in
theorem itimer_any (l : List UInt8) (hl : l.length ≤ 9223372036854775807) (w : World) :
    Calls Tryd.prog 19 #[.string ⟨l.toArray⟩] w fun e w' => e = .returned (.tuple #[.int .i64 (pick3 (timOK l) (tA l)), .int .i64 (pick3 (timOK l) (tI l)), .int .i64 (pick3 (timOK l) (tP l)), .bool (timOK l)]) ∧ Below w.heap.size w w' := by
  by_cases h12 : l.length = 12
  · have hne : l ≠ [] := by rintro rfl; simp at h12
    obtain ⟨_, hpos, hh, h0, ht1, hd1⟩ := Txt.of Tryd.underlying9 l (by omega) hne
    obtain ⟨p1, p2, p3⟩ := parts12 Tryd.underlying9 l h12
    have e12 : ((l.length : Int) != 12) = false := by rw [h12]; rfl
    have r1 : ((l.drop 1).take 6).length ≤ 6 := by simp; omega
    have r2 : ((l.drop 7).take 4).length ≤ 6 := by simp; omega
    have r3 : (l.drop 11).length ≤ 6 := by simp; omega
    by_cases hc : hd l = 116
    · have hT := Lib.hid (timOK_yes l h12 hc)
      rw [hc] at h0
      unfold tA tI tP at *
      generalize (l.drop 1).take 6 = x1 at *
      generalize (l.drop 7).take 4 = x2 at *
      generalize l.drop 11 = x3 at *
      clear hc hh hne h12 hd1 ht1
      generalize timOK l = tk at *
      go_enter Tryd.func19, Tryd.ntmps19
      go_wp2_with fail
      go_region_held3 (fun _ => True) (exact trivial)
        (first
          | (go_at_call_of 46 (Value.string ⟨x1.toArray⟩); refine (read_any x1 r1 _).mono ?_; rintro e w1 ⟨rfl, hb1⟩)
          | (go_at_call_of 46 (Value.string ⟨x2.toArray⟩); refine (read_any x2 r2 _).mono ?_; rintro e w2 ⟨rfl, hb2⟩)
          | (go_at_call_of 46 (Value.string ⟨x3.toArray⟩); refine (read_any x3 r3 _).mono ?_; rintro e w3 ⟨rfl, hb3⟩))
      have HB : Hid (Below w.heap.size w w3) := Lib.hid (((Below.refl w.heap.size w).drew.trans hb1).trans ((hb2.mono hb1.size).trans (hb3.mono (Nat.le_trans hb1.size hb2.size))))
      clear hb1 hb2 hb3
      have tf : ∀ b : Bool, tk = b → (pick3 tk (valB x1) = pick3 b (valB x1) ∧ pick3 tk (valB x2) = pick3 b (valB x2) ∧ pick3 tk (valB x3) = pick3 b (valB x3)) := fun b hb => by subst hb; exact ⟨rfl, rfl, rfl⟩
      have TF := Lib.hid tf
      clear tf
      by_cases q1 : clockB (valB x1) = true
      · by_cases q2 : numberB (valB x2) = true
        · by_cases q3 : valB x3 < 8
          · have kn : Hid (tk = true) := Lib.hid (by rw [hT.out, q1, q2]; simpa using q3)
            have g : ¬ (8 : Int) ≤ valB x3 := by omega
            go_wp2_with (first
              | (go_at_call 41; refine (clock_any _ _).mono ?_; rintro e w' ⟨rfl, rfl⟩)
              | (go_at_call 42; refine (number_any _ _).mono ?_; rintro e w' ⟨rfl, rfl⟩))
            refine bodyPost_ret (by simp [results, Tryd.results19, go_sem]; rfl) rfl ?_
            rw [kn.out]
            exact ⟨rfl, HB.out⟩
          · have kn : Hid (tk = false) := Lib.hid (by rw [hT.out, q1, q2]; simpa using q3)
            have g : (8 : Int) ≤ valB x3 := by omega
            go_wp2_with (first
              | (go_at_call 41; refine (clock_any _ _).mono ?_; rintro e w' ⟨rfl, rfl⟩)
              | (go_at_call 42; refine (number_any _ _).mono ?_; rintro e w' ⟨rfl, rfl⟩))
            refine bodyPost_ret (by simp [results, Tryd.results19, go_sem]; rfl) rfl ?_
            rw [kn.out]
            exact ⟨rfl, HB.out⟩
        · have q2 : numberB (valB x2) = false := Bool.eq_false_iff.2 q2
          have kn : Hid (tk = false) := Lib.hid (by rw [hT.out, q2]; simp)
          go_wp2_with (first
            | (go_at_call 41; refine (clock_any _ _).mono ?_; rintro e w' ⟨rfl, rfl⟩)
            | (go_at_call 42; refine (number_any _ _).mono ?_; rintro e w' ⟨rfl, rfl⟩))
          refine bodyPost_ret (by simp [results, Tryd.results19, go_sem]; rfl) rfl ?_
          rw [kn.out]
          exact ⟨rfl, HB.out⟩
      · have q1 : clockB (valB x1) = false := Bool.eq_false_iff.2 q1
        have kn : Hid (tk = false) := Lib.hid (by rw [hT.out, q1]; simp)
        go_wp2_with (go_at_call 41; refine (clock_any _ _).mono ?_; rintro e w' ⟨rfl, rfl⟩)
        refine bodyPost_ret (by simp [results, Tryd.results19, go_sem]; rfl) rfl ?_
        rw [kn.out]
        exact ⟨rfl, HB.out⟩
    · have kn := Lib.hid (timOK_no l (fun h => hc h.2))
      have hc' : (((hd l).toNat : Int) != 116) = true := by
        rw [bne_iff_ne]
        exact fun h => hc ((u8_prop (hd l) 116).mp h)
      generalize hd l = c at *
      clear h12 hh hne hd1 p1 p2 p3 ht1
      generalize timOK l = tk at *
      go_enter Tryd.func19, Tryd.ntmps19
      go_wp2_with fail
      refine bodyPost_ret (by simp [results, Tryd.results19, go_sem]; rfl) rfl ?_
      rw [kn.out]
      exact ⟨rfl, Below.refl _ _⟩
  · have kn := Lib.hid (timOK_no l (fun h => h12 h.1))
    have e12 : ((l.length : Int) != 12) = true := by rw [bne_iff_ne]; omega
    generalize timOK l = tk at *
    clear h12
    go_enter Tryd.func19, Tryd.ntmps19
    go_wp2_with fail
    refine bodyPost_ret (by simp [results, Tryd.results19, go_sem]; rfl) rfl ?_
    rw [kn.out]
    exact ⟨rfl, Below.refl _ _⟩
end Go.Proofs.YtgakgdohbliaeaaDoor
