/- Names: token.letter, digit, inner, run, Name; the document's Letter, Digit, Name. -/
import Derived.Test.YtaonccobohiiiaaDoorProg
import Derived.Test.YtaonccobohiiiaaDoorKit
namespace Go.Proofs.YtaonccobohiiiaaDoor
open Go.RowKit

def letterI (c : Int) : Bool := decide (c = 95 ∨ (97 ≤ c ∧ c ≤ 122) ∨ (65 ≤ c ∧ c ≤ 90))
def digitI (c : Int) : Bool := decide (48 ≤ c ∧ c ≤ 57)
def innerI (c : Int) : Bool := letterI c || digitI c || decide (c = 46)

theorem letter_any (c : Int) (w : World) : Calls Tryd.prog 42 #[.int .u8 c] w fun e w' => e = .returned (.bool (letterI c)) ∧ w = w' := by
  by_cases h1 : c = 95
  · subst h1
    go_enter Tryd.func42, Tryd.ntmps42
    go_wp2
    go_ret
    exact ⟨rfl, rfl⟩
  have e1 : (c == 95) = false := by simp [h1]
  by_cases h2 : 97 ≤ c <;> by_cases h3 : c ≤ 122 <;> by_cases h4 : 65 ≤ c <;> by_cases h5 : c ≤ 90
  all_goals first
    | (exfalso; omega)
    | (go_enter Tryd.func42, Tryd.ntmps42
       go_wp2
       go_ret
       exact ⟨by simp [letterI]; omega, rfl⟩)

theorem digit_any (c : Int) (w : World) : Calls Tryd.prog 57 #[.int .u8 c] w fun e w' => e = .returned (.bool (digitI c)) ∧ w = w' := by
  by_cases h2 : 48 ≤ c
  all_goals
    go_enter Tryd.func57, Tryd.ntmps57
    go_wp2
    go_ret
    exact ⟨by simp [digitI]; try omega, rfl⟩

theorem inner_any (c : Int) (w : World) : Calls Tryd.prog 44 #[.int .u8 c] w fun e w' => e = .returned (.bool (innerI c)) ∧ w = w' := by
  by_cases h1 : letterI c <;> by_cases h2 : digitI c
  all_goals
    go_enter Tryd.func44, Tryd.ntmps44
    go_wp2_with (first
      | (go_at_call 42; refine (letter_any _ _).mono ?_; rintro e w' ⟨rfl, rfl⟩)
      | (go_at_call 57; refine (digit_any _ _).mono ?_; rintro e w' ⟨rfl, rfl⟩))
    go_ret
    exact ⟨by simp [innerI, h1, h2] <;> rfl, rfl⟩

/-- How many bytes at the beginning are a name's inner ones. -/
def innerLen (l : List UInt8) : Nat := (l.takeWhile fun c => innerI c.toNat).length

theorem innerLen_at (l : List UInt8) (k : Nat) (hk : k ≤ l.length) (h1 : ∀ j (h : j < l.length), j < k → innerI l[j].toNat = true) (h2 : ∀ h : k < l.length, ¬ innerI l[k].toNat = true) : innerLen l = k := by
  unfold innerLen
  induction l generalizing k with
  | nil => simp at hk ⊢; omega
  | cons c l ih =>
    rw [List.takeWhile_cons]
    cases k with
    | zero =>
      rw [if_neg (show ¬ innerI c.toNat = true from h2 (by simp))]
      rfl
    | succ k =>
      rw [if_pos (show innerI c.toNat = true from h1 0 (by simp) (by omega))]
      simp only [List.length_cons] at hk ⊢
      rw [ih k (by omega) (fun j h hj => h1 (j + 1) (by simpa using h) (by omega)) (fun h => h2 (by simpa using h))]

set_option maxHeartbeats 400000 in
theorem run_inner (l : List UInt8) (hl : l.length ≤ 9223372036854775807) (w : World) :
    Calls Tryd.prog 43 #[.string ⟨l.toArray⟩, .int .i64 0, .func (.func 44) #[] #[]] w fun e w' => e = .returned (.int .i64 (innerLen l)) ∧ w = w' := by
  go_enter Tryd.func43, Tryd.ntmps43
  go_wp2_with fail
  go_loop [1] (fun i => ∃ k : Nat, k ≤ l.length ∧ i = .int .i64 k ∧ ∀ j (h : j < l.length), j < k → innerI l[j].toNat = true) (fun i => l.length - (intOf i).toNat)
  case atStart => exact ⟨0, by omega, rfl, fun j _ h => by omega⟩
  case round =>
    obtain ⟨k, hk, rfl, hall⟩ := hrel
    have HA := Lib.hid hall
    try clear hall
    by_cases hlt : k < l.length
    · by_cases hin : innerI l[k].toNat = true
      · have hin' : innerI (((ByteArray.mk l.toArray)[k]'(by simpa [ByteArray.size] using hlt)).toNat) = true := hin
        have HI := Lib.hid hin
        try clear hin
        go_wp2_with (go_at_call 44; refine (inner_any _ _).mono ?_; rintro e w' ⟨rfl, rfl⟩)
        go_round
        case rel =>
          refine ⟨k + 1, by omega, by go_num, fun j h hj => ?_⟩
          rcases Nat.lt_or_ge j k with h' | h'
          · exact HA.out j h h'
          · obtain rfl : j = k := by omega
            exact HI.out
        case measure => simp [intOf]; omega
      · have hin' : innerI (((ByteArray.mk l.toArray)[k]'(by simpa [ByteArray.size] using hlt)).toNat) = false := Bool.eq_false_iff.2 hin
        have HI := Lib.hid hin
        try clear hin
        go_wp2_with (go_at_call 44; refine (inner_any _ _).mono ?_; rintro e w' ⟨rfl, rfl⟩)
        go_ret
        refine ⟨?_, rfl⟩
        rw [innerLen_at l k hk HA.out (fun _ => HI.out)]
        rfl
    · go_wp2_with fail
      go_ret
      refine ⟨?_, rfl⟩
      rw [innerLen_at l k hk HA.out (fun h => absurd h hlt)]
      rfl

/-- Is a text a name's? -/
def nameB (l : List UInt8) : Bool := decide (l.length ≤ 32) && (match l with | [] => false | c :: _ => letterI c.toNat) && l.all fun c => innerI c.toNat
theorem innerLen_all (l : List UInt8) : (innerLen l = l.length) ↔ (l.all fun c => innerI c.toNat) = true := by
  unfold innerLen
  induction l with
  | nil => simp
  | cons c l ih =>
    rw [List.takeWhile_cons]
    by_cases h : innerI c.toNat = true
    · rw [if_pos h]
      simp only [List.length_cons, List.all_cons, h, Bool.true_and]
      rw [← ih]
      omega
    · rw [if_neg h]
      simp [h]

theorem name_any (l : List UInt8) (hl : l.length ≤ 9223372036854775807) (w : World) :
    Calls Tryd.prog 32 #[.string ⟨l.toArray⟩] w fun e w' => e = .returned (.bool (nameB l)) ∧ w = w' := by
  cases l with
  | nil =>
    go_enter Tryd.func32, Tryd.ntmps32
    go_wp2_with fail
    go_ret
    exact ⟨rfl, rfl⟩
  | cons c r =>
    generalize hL : c :: r = l at *
    have hpos : 0 < l.length := by rw [← hL]; simp
    have h0 : l[0] = c := by subst hL; rfl
    have hne : l.isEmpty = false := by rw [← hL]; rfl
    have hN : nameB l = (decide (l.length ≤ 32) && letterI c.toNat && decide ((innerLen l : Int) = l.length)) := by
      subst hL
      simp only [nameB]
      congr 1
      rw [Bool.eq_iff_iff, ← innerLen_all]
      simp only [decide_eq_true_eq]
      omega
    have HN := Lib.hid hN
    try clear hN hL
    by_cases h32 : l.length ≤ 32
    · by_cases hc : letterI c.toNat = true
      · have hc' : letterI (((ByteArray.mk l.toArray)[0]'(by simpa [ByteArray.size] using hpos)).toNat) = true := by rw [str_at l 0 hpos, h0]; exact hc
        have HC := Lib.hid hc
        try clear hc h0
        go_enter Tryd.func32, Tryd.ntmps32
        go_wp2_with (first
          | (go_at_call 42; refine (letter_any _ _).mono ?_; rintro e w' ⟨rfl, rfl⟩)
          | (go_at_call 43; refine (run_inner l hl _).mono ?_; rintro e w' ⟨rfl, rfl⟩))
        go_ret
        rw [HN.out]
        refine ⟨?_, rfl⟩
        simp [h32, HC.out]
        rfl
      · have hc' : letterI (((ByteArray.mk l.toArray)[0]'(by simpa [ByteArray.size] using hpos)).toNat) = false := by rw [str_at l 0 hpos, h0]; exact Bool.eq_false_iff.2 hc
        have HC := Lib.hid hc
        try clear hc h0
        go_enter Tryd.func32, Tryd.ntmps32
        go_wp2_with (go_at_call 42; refine (letter_any _ _).mono ?_; rintro e w' ⟨rfl, rfl⟩)
        go_ret
        rw [HN.out]
        exact ⟨by simp [HC.out], rfl⟩
    · go_enter Tryd.func32, Tryd.ntmps32
      go_wp2_with fail
      go_ret
      rw [HN.out]
      exact ⟨by simp [h32]; try omega, rfl⟩

/-! The document's -/
theorem all_of (l : List UInt8) (h : ∀ j (h : j < l.length), innerI l[j].toNat = true) : (l.all fun c => innerI c.toNat) = true := by
  rw [List.all_eq_true]
  intro c hc
  obtain ⟨j, hj, rfl⟩ := List.getElem_of_mem hc
  exact h j hj
theorem not_all_of (l : List UInt8) (j : Nat) (hj : j < l.length) (h : innerI l[j].toNat = false) : (l.all fun c => innerI c.toNat) = false := by
  rw [List.all_eq_false]
  exact ⟨l[j], List.getElem_mem hj, by simp [h]⟩

end Go.Proofs.YtaonccobohiiiaaDoor
