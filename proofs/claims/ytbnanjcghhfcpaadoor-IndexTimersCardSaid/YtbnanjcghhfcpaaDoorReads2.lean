/- The rest of what a text is as a key. -/
import Derived.Test.YtbnanjcghhfcpaaDoorReads
import Derived.Test.YtbnanjcghhfcpaaDoorMeta
namespace Go.Proofs.YtbnanjcghhfcpaaDoor
open Go.RowKit

theorem nameOK_iff (l : List UInt8) (hne : l ≠ []) : nameOK l = (!(((hd l).toNat : Int) != 110) && decide (nkCode (l.drop 1) = 0)) := by
  have hpos : 0 < l.length := List.length_pos_iff.2 hne
  have e : (hd l == 110) = !(((hd l).toNat : Int) != 110) := u8_eq (hd l) 110
  rw [nameOK, e, nkCode]
  generalize (((hd l).toNat : Int) != 110) = b
  have e2 : (l.drop 1).length = l.length - 1 := by simp
  rw [e2]
  generalize nameB (l.drop 1) = n
  have e3 : l.length - 1 ≤ 31 ↔ l.length ≤ 32 := by omega
  simp only [e3]
  cases n <;> cases b <;> by_cases h2 : l.length ≤ 32 <;> simp [h2]

open Classical in
/-- The document's TimerKey: the key, the code. -/
noncomputable def tkCode (a i p : Int) : Nat := if okT a i p then 0 else 2
open Classical in
noncomputable def tkKey (a i p : Int) : List UInt8 := if okT a i p then timerKey a.toNat i.toNat p.toNat else []

set_option maxHeartbeats 1000000 in
set_option maxRecDepth 100000 in
theorem rtimerKey_any (a i p : Int) (w : World) :
    Calls Tryd.prog 36 #[.int .i64 a, .int .i64 i, .int .i64 p] w fun e w' => e = .returned (.tuple #[.string ⟨(tkKey a i p).toArray⟩, .int .i64 (tkCode a i p)]) ∧ Below w.heap.size w w' := by
  by_cases h : okT a i p
  · have hk : Hid (tkKey a i p = timerKey a.toNat i.toNat p.toNat) := Lib.hid (if_pos h)
    have hc : Hid (tkCode a i p = 0) := Lib.hid (if_pos h)
    obtain ⟨h1, h2, h3, h4, h5, h6⟩ := h
    obtain ⟨a, rfl⟩ := Int.eq_ofNat_of_zero_le h1
    obtain ⟨i, rfl⟩ := Int.eq_ofNat_of_zero_le (show 0 ≤ i by omega)
    obtain ⟨p, rfl⟩ := Int.eq_ofNat_of_zero_le (show 0 ≤ p by omega)
    have b1 : clockB a = true := by simp [clockB]; omega
    have b2 : numberB i = true := by simp [numberB]; omega
    have c1 : ∀ W : World, (Op.stringOp .add ⟨#[116]⟩ ⟨(bigB 6 a).toArray⟩).run Tryd.prog W = .ok (.string ⟨(116 :: bigB 6 a).toArray⟩) W := fun W => run_cat [116] (bigB 6 a) (by simp [bigB_len]) W
    have c2 : ∀ W : World, (Op.stringOp .add ⟨(116 :: bigB 6 a).toArray⟩ ⟨(bigB 4 i).toArray⟩).run Tryd.prog W = .ok (.string ⟨(116 :: (bigB 6 a ++ bigB 4 i)).toArray⟩) W := fun W => run_cat (116 :: bigB 6 a) (bigB 4 i) (by simp [bigB_len]) W
    have c3 : ∀ W : World, (Op.stringOp .add ⟨(116 :: (bigB 6 a ++ bigB 4 i)).toArray⟩ ⟨(bigB 1 p).toArray⟩).run Tryd.prog W = .ok (.string ⟨(116 :: (bigB 6 a ++ (bigB 4 i ++ bigB 1 p))).toArray⟩) W := fun W => by
      have := run_cat (P := Tryd.prog) (116 :: (bigB 6 a ++ bigB 4 i)) (bigB 1 p) (by simp [bigB_len]) W
      simpa using this
    go_enter Tryd.func36, Tryd.ntmps36
    go_wp2_with (first
      | (go_at_call 58; refine (rclock_any _ _).mono ?_; rintro e w' ⟨rfl, rfl⟩)
      | (go_at_call 59; refine (rnumber_any _ _).mono ?_; rintro e w' ⟨rfl, rfl⟩))
    refine (big_len a 6 (by omega) (by omega) 6 rfl _).mono ?_
    rintro e w1 ⟨rfl, hb1⟩
    go_wp2_with fail
    refine (big_len i 4 (by omega) (by omega) 4 rfl _).mono ?_
    rintro e w2 ⟨rfl, hb2⟩
    go_wp2_with fail
    refine (big_len p 1 (by omega) (by omega) 1 rfl _).mono ?_
    rintro e w3 ⟨rfl, hb3⟩
    go_wp2_with fail
    go_ret2
    rw [hk.out, hc.out]
    refine ⟨?_, (hb1.trans (hb2.mono hb1.size)).trans (hb3.mono (Nat.le_trans hb1.size hb2.size))⟩
    simp [timerKey, joinB]
  · have hk : Hid (tkKey a i p = []) := Lib.hid (if_neg h)
    have hc : Hid (tkCode a i p = 2) := Lib.hid (if_neg h)
    have fin : ∀ W : World, W = w → (∀ (e : Ending) (w' : World), e = .returned (.tuple #[.string ⟨#[]⟩, .int .i64 2]) ∧ W = w' → (e = .returned (.tuple #[.string ⟨(tkKey a i p).toArray⟩, .int .i64 (tkCode a i p)]) ∧ Below w.heap.size w w')) := by
      rintro W rfl e w' ⟨rfl, rfl⟩
      rw [hk.out, hc.out]
      exact ⟨rfl, Below.refl _ _⟩
    refine Calls.mono ?_ (fin w rfl)
    by_cases h1 : clockB a = true
    · by_cases h2 : numberB i = true
      · have h3 : p < 0 ∨ 7 < p := by unfold okT at h; simp [clockB, numberB] at h1 h2; omega
        have H := Lib.hid h
        clear h
        rcases h3 with h3 | h3
        · go_enter Tryd.func36, Tryd.ntmps36
          go_wp2_with (first
            | (go_at_call 58; refine (rclock_any _ _).mono ?_; rintro e w' ⟨rfl, rfl⟩)
            | (go_at_call 59; refine (rnumber_any _ _).mono ?_; rintro e w' ⟨rfl, rfl⟩))
          go_ret2
          exact ⟨rfl, rfl⟩
        · have h4 : ¬ p < 0 := by omega
          go_enter Tryd.func36, Tryd.ntmps36
          go_wp2_with (first
            | (go_at_call 58; refine (rclock_any _ _).mono ?_; rintro e w' ⟨rfl, rfl⟩)
            | (go_at_call 59; refine (rnumber_any _ _).mono ?_; rintro e w' ⟨rfl, rfl⟩))
          go_ret2
          exact ⟨rfl, rfl⟩
      · have h2 : numberB i = false := Bool.eq_false_iff.2 h2
        clear h
        go_enter Tryd.func36, Tryd.ntmps36
        go_wp2_with (first
          | (go_at_call 58; refine (rclock_any _ _).mono ?_; rintro e w' ⟨rfl, rfl⟩)
          | (go_at_call 59; refine (rnumber_any _ _).mono ?_; rintro e w' ⟨rfl, rfl⟩))
        go_ret2
        exact ⟨rfl, rfl⟩
    · have h1 : clockB a = false := Bool.eq_false_iff.2 h1
      clear h
      go_enter Tryd.func36, Tryd.ntmps36
      go_wp2_with (go_at_call 58; refine (rclock_any _ _).mono ?_; rintro e w' ⟨rfl, rfl⟩)
      go_ret2
      exact ⟨rfl, rfl⟩
end Go.Proofs.YtbnanjcghhfcpaaDoor
