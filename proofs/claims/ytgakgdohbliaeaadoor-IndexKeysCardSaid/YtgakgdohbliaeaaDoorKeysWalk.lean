/- The walk of IndexKeys. -/
import Derived.Test.YtgakgdohbliaeaaDoorKeys
namespace Go.Proofs.YtgakgdohbliaeaaDoor
open Go.RowKit

/-- tells at whatever an error or nil is, under one roof: the code is that of the error. -/
theorem tells_any {w : World} {ad : Nat → Addr} (h : Sents w ad) (E : Value) (c : Int) (hE : (c = 0 ∧ E = .nilIface) ∨ ∃ k n : Nat, c = k ∧ 1 ≤ k ∧ k ≤ 9 ∧ ErrAt w (ad k) n E) :
    Calls Tryd.prog 23 #[E, .int .i64 c] w fun e w' => e = .returned (.bool true) ∧ w = w' := by
  rcases hE with ⟨rfl, rfl⟩ | ⟨k, n, hc, h1, h2, hE⟩
  · exact tells_nil w
  · exact tells_err h k ⟨h1, h2⟩ n E hE c hc

set_option maxHeartbeats 4000000 in
set_option maxRecDepth 100000 in
theorem keys_any (id : Int) (r : List UInt8) (hl : r.length ≤ 9223372036854775806) (a p : Int) (w : World) (ad : Nat → Addr) (hs : Sents w ad) :
    Calls Tryd.prog 8 #[.int .i64 id, .string ⟨r.toArray⟩, .agg #[.int .i64 a, .int .i64 p]] w fun e w' => e = .returned (.bool true) ∧ Below w.heap.size w w' := by
  have hB0 := (Below.refl w.heap.size w).alloc (Nat.le_refl _) (.cells #[.int .i64 a, .int .i64 p] 44)
  have S0 := Lib.hid (hs.below hB0)
  have HB0 := Lib.hid hB0
  have W0 := Lib.hid (Whole.new w 44 #[.int .i64 a, .int .i64 p])
  clear hB0 hs
  go_enter Tryd.func8, Tryd.ntmps8
  go_wp2_with fail
  refine (chartKey_any id _ (ad 2) S0.out.s2).mono ?_
  rintro e w1 ⟨s1, E1, rfl, hb1, h1⟩
  have W1 := Lib.hid (W0.out.below hb1 (by simp))
  have S1 := Lib.hid (S0.out.below hb1)
  have HB1 := Lib.hid (HB0.out.trans (hb1.mono (by simp)))
  have H1 := Lib.hid h1
  clear hb1 h1
  go_wp2_with fail
  refine (instKey_any id _ (ad 2) S1.out.s2).mono ?_
  rintro e w2 ⟨s2, E2, rfl, hb2, h2⟩
  have W2 := Lib.hid (W1.out.below hb2 W1.out.lt)
  have S2 := Lib.hid (S1.out.below hb2)
  have HB2 := Lib.hid (HB1.out.trans (hb2.mono HB1.out.size))
  have H2 := Lib.hid h2
  have K2 := Lib.hid hb2
  clear hb2 h2
  go_wp2_with fail
  refine (inameKey_any r hl _ (ad 1) (ad 8) S2.out.s1 S2.out.s8).mono ?_
  rintro e w3 ⟨E3, rfl, hb3, h3⟩
  have W3 := W2.out.below hb3 W2.out.lt
  have S3 := Lib.hid (S2.out.below hb3)
  have HB3 := Lib.hid (HB2.out.trans (hb3.mono HB2.out.size))
  have H3 := Lib.hid h3
  have K3 := Lib.hid hb3
  clear hb3 h3
  obtain ⟨p1, p2⟩ := W3.c2
  go_wp2_with fail
  refine (timerKey_any a id p _ (ad 2) S3.out.s2).mono ?_
  rintro e w4 ⟨s4, E4, rfl, hb4, h4⟩
  have W4 := Lib.hid (W3.below hb4 W3.lt)
  have S4 := Lib.hid (S3.out.below hb4)
  have HB4 := Lib.hid (HB3.out.trans (hb4.mono HB3.out.size))
  have H4 := Lib.hid h4
  have K4 := Lib.hid hb4
  clear hb4 h4 p1 p2 W3
  go_wp2_with fail
  refine (numbered_any 99 id _).mono ?_
  rintro e w5 ⟨rfl, hb5⟩
  have W5 := Lib.hid (W4.out.below hb5 W4.out.lt)
  have S5 := Lib.hid (S4.out.below hb5)
  have HB5 := Lib.hid (HB4.out.trans (hb5.mono HB4.out.size))
  have K5 := Lib.hid hb5
  clear hb5
  go_wp2_with fail
  refine (numbered_any 105 id _).mono ?_
  rintro e w6 ⟨rfl, hb6⟩
  have W6 := W5.out.below hb6 W5.out.lt
  have S6 := Lib.hid (S5.out.below hb6)
  have HB6 := Lib.hid (HB5.out.trans (hb6.mono HB5.out.size))
  have K6 := Lib.hid hb6
  clear hb6
  obtain ⟨p1, p2⟩ := W6.c2
  go_wp2_with fail
  refine (rnameKey_any r hl _).mono ?_
  rintro e w' ⟨rfl, rfl⟩
  go_wp2_with fail
  refine (rtimerKey_any a id p _).mono ?_
  rintro e w7 ⟨rfl, hb7⟩
  have S7 := Lib.hid (S6.out.below hb7)
  have HB7 := Lib.hid (HB6.out.trans (hb7.mono HB6.out.size))
  -- what each error is in the last world, and that the keys agree
  have t17 : Hid (Below w1.heap.size w1 w7) := Lib.hid (((((K2.out.trans (K3.out.mono K2.out.size)).trans (K4.out.mono (by have := K2.out.size; have := K3.out.size; omega))).trans (K5.out.mono (by have := K2.out.size; have := K3.out.size; have := K4.out.size; omega))).trans (K6.out.mono (by have := K2.out.size; have := K3.out.size; have := K4.out.size; have := K5.out.size; omega))).trans (hb7.mono (by have := K2.out.size; have := K3.out.size; have := K4.out.size; have := K5.out.size; have := K6.out.size; omega)))
  have t27 : Hid (Below w2.heap.size w2 w7) := Lib.hid ((((K3.out.trans (K4.out.mono K3.out.size)).trans (K5.out.mono (by have := K3.out.size; have := K4.out.size; omega))).trans (K6.out.mono (by have := K3.out.size; have := K4.out.size; have := K5.out.size; omega))).trans (hb7.mono (by have := K3.out.size; have := K4.out.size; have := K5.out.size; have := K6.out.size; omega)))
  have t37 : Hid (Below w3.heap.size w3 w7) := Lib.hid (((K4.out.trans (K5.out.mono K4.out.size)).trans (K6.out.mono (by have := K4.out.size; have := K5.out.size; omega))).trans (hb7.mono (by have := K4.out.size; have := K5.out.size; have := K6.out.size; omega)))
  have t47 : Hid (Below w4.heap.size w4 w7) := Lib.hid ((K5.out.trans (K6.out.mono K5.out.size)).trans (hb7.mono (by have := K5.out.size; have := K6.out.size; omega)))
  clear hb7 p1 p2 W6
  have q1 : Hid (s1 = nuKey 99 id ∧ (((nuCode id : Nat) : Int) = 0 ∧ E1 = .nilIface ∨ ∃ k n : Nat, ((nuCode id : Nat) : Int) = k ∧ 1 ≤ k ∧ k ≤ 9 ∧ ErrAt w7 (ad k) n E1)) := Lib.hid (by
    rcases H1.out with ⟨ok, rfl, rfl⟩ | ⟨no, rfl, hE⟩
    · exact ⟨by rw [nuKey, if_pos ok], .inl ⟨by rw [nuCode, if_pos ok]; rfl, rfl⟩⟩
    · exact ⟨by rw [nuKey, if_neg no], .inr ⟨2, 1, by rw [nuCode, if_neg no], by omega, by omega, (hE.below (by exact t17.out))⟩⟩)
  have q2 : Hid (s2 = nuKey 105 id ∧ (((nuCode id : Nat) : Int) = 0 ∧ E2 = .nilIface ∨ ∃ k n : Nat, ((nuCode id : Nat) : Int) = k ∧ 1 ≤ k ∧ k ≤ 9 ∧ ErrAt w7 (ad k) n E2)) := Lib.hid (by
    rcases H2.out with ⟨ok, rfl, rfl⟩ | ⟨no, rfl, hE⟩
    · exact ⟨by rw [nuKey, if_pos ok], .inl ⟨by rw [nuCode, if_pos ok]; rfl, rfl⟩⟩
    · exact ⟨by rw [nuKey, if_neg no], .inr ⟨2, 1, by rw [nuCode, if_neg no], by omega, by omega, (hE.below (by exact t27.out))⟩⟩)
  have q3 : Hid ((((nkCode r : Nat) : Int) = 0 ∧ E3 = .nilIface ∨ ∃ k n : Nat, ((nkCode r : Nat) : Int) = k ∧ 1 ≤ k ∧ k ≤ 9 ∧ ErrAt w7 (ad k) n E3)) := Lib.hid (by
    rcases H3.out with ⟨ok, rfl⟩ | ⟨no, hE⟩ | ⟨no, hE⟩
    · exact .inl ⟨by rw [ok]; rfl, rfl⟩
    · exact .inr ⟨1, 1, by rw [no], by omega, by omega, (hE.below (by exact t37.out))⟩
    · exact .inr ⟨8, 1, by rw [no], by omega, by omega, (hE.below (by exact t37.out))⟩)
  have q4 : Hid (s4 = tkKey a id p ∧ (((tkCode a id p : Nat) : Int) = 0 ∧ E4 = .nilIface ∨ ∃ k n : Nat, ((tkCode a id p : Nat) : Int) = k ∧ 1 ≤ k ∧ k ≤ 9 ∧ ErrAt w7 (ad k) n E4)) := Lib.hid (by
    rcases H4.out with ⟨ok, rfl, rfl⟩ | ⟨no, rfl, hE⟩
    · exact ⟨by rw [tkKey, if_pos ok], .inl ⟨by rw [tkCode, if_pos ok]; rfl, rfl⟩⟩
    · exact ⟨by rw [tkKey, if_neg no], .inr ⟨2, 1, by rw [tkCode, if_neg no], by omega, by omega, (hE.below (by exact t47.out))⟩⟩)
  clear H1 H2 H3 H4 K2 K3 K4 K5 K6 t17 t27 t37 t47 W0 W1 W2 W4 W5 S0 S1 S2 S3 S4 S5 S6 HB0 HB1 HB2 HB3 HB4 HB5 HB6
  obtain ⟨rfl, r1⟩ := q1.out
  have Q1 := Lib.hid r1
  clear q1 r1
  obtain ⟨rfl, r2⟩ := q2.out
  have Q2 := Lib.hid r2
  clear q2 r2
  obtain ⟨rfl, r4⟩ := q4.out
  have Q4 := Lib.hid r4
  clear q4 r4
  go_wp2_with fail
  refine (tells_any S7.out E1 _ Q1.out).mono ?_
  rintro e w' ⟨rfl, rfl⟩
  go_wp2_with fail
  refine (tells_any S7.out E2 _ Q2.out).mono ?_
  rintro e w' ⟨rfl, rfl⟩
  go_wp2_with fail
  refine (tells_any S7.out E3 _ q3.out).mono ?_
  rintro e w' ⟨rfl, rfl⟩
  go_wp2_with fail
  refine (tells_any S7.out E4 _ Q4.out).mono ?_
  rintro e w' ⟨rfl, rfl⟩
  have z1 : Hid (((nuCode id : Nat) : Int) = 0 → 0 < (nuKey 99 id).length ∧ (nuKey 99 id).length ≤ 32) := Lib.hid (by
    intro h
    by_cases ok : okN id
    · rw [nuKey, if_pos ok]; simp [bigB_len]
    · rw [nuCode, if_neg ok] at h; simp at h)
  have z2 : Hid (((nkCode r : Nat) : Int) = 0 → 0 < (nkKey r).length ∧ (nkKey r).length ≤ 32) := Lib.hid (by
    intro h
    have h' : nkCode r = 0 := by omega
    rw [nkKey, if_pos h']
    have : r.length ≤ 31 := by
      unfold nkCode at h'
      by_cases k1 : nameB r = true
      · by_cases k2 : r.length ≤ 31
        · exact k2
        · simp [k1, k2] at h'
      · simp [k1] at h'
    simp
    omega)
  have z3 : Hid (((tkCode a id p : Nat) : Int) = 0 → 0 < (tkKey a id p).length ∧ (tkKey a id p).length ≤ 32) := Lib.hid (by
    intro h
    by_cases ok : okT a id p
    · rw [tkKey, if_pos ok]; simp [timerKey, joinB, bigB_len]
    · rw [tkCode, if_neg ok] at h; simp at h)
  clear Q1 Q2 q3 Q4 S7
  generalize ((nuCode id : Nat) : Int) = c1 at *
  generalize ((nkCode r : Nat) : Int) = c2 at *
  generalize ((tkCode a id p : Nat) : Int) = c3 at *
  generalize nuKey 99 id = k1 at *
  generalize nkKey r = k2 at *
  generalize tkKey a id p = k3 at *
  have fin : ∀ b1 b2 b3 : Bool, (c1 != 0) = b1 → (c2 != 0) = b2 → (c3 != 0) = b3 → True := fun _ _ _ _ _ _ => trivial
  clear fin
  by_cases d1 : c1 = 0 <;> by_cases d2 : c2 = 0 <;> by_cases d3 : c3 = 0
  all_goals
    have e1 : (c1 != 0) = !decide (c1 = 0) := by simp [bne]; rfl
    have e2 : (c2 != 0) = !decide (c2 = 0) := by simp [bne]; rfl
    have e3 : (c3 != 0) = !decide (c3 = 0) := by simp [bne]; rfl
    simp only [d1, d2, d3, decide_true, decide_false, Bool.not_true, Bool.not_false] at e1 e2 e3
    go_wp2_with (first
      | (go_at_call_of 36 (Value.string ⟨k1.toArray⟩); refine (key07_any k1 (z1.out d1).1 (z1.out d1).2 _).mono ?_; rintro e w' ⟨rfl, rfl⟩)
      | (go_at_call_of 36 (Value.string ⟨k2.toArray⟩); refine (key07_any k2 (z2.out d2).1 (z2.out d2).2 _).mono ?_; rintro e w' ⟨rfl, rfl⟩)
      | (go_at_call_of 36 (Value.string ⟨k3.toArray⟩); refine (key07_any k3 (z3.out d3).1 (z3.out d3).2 _).mono ?_; rintro e w' ⟨rfl, rfl⟩)
      | (go_at_call 11; refine (awake35 _).mono ?_; rintro e w8 ⟨rfl, hb8⟩))
    go_ret
    exact ⟨rfl, HB7.out.trans (hb8.mono HB7.out.size)⟩
end Go.Proofs.YtgakgdohbliaeaaDoor
