/- The keys of numbers and names, there and back. -/
import Derived.Test.YtgakgdohbliaeaaDoorReads4
import Derived.Test.YtgakgdohbliaeaaDoorTells
import Derived.Test.YtgakgdohbliaeaaDoorOrd
namespace Go.Proofs.YtgakgdohbliaeaaDoor
open Go.RowKit

def okN (n : Int) : Prop := 1 ≤ n ∧ n ≤ 2147483647
theorem okN_iff (n : Int) : numberB n = true ↔ okN n := by simp [numberB, okN]

set_option maxRecDepth 100000 in
theorem chartKey_any (n : Int) (w : World) (aR : Addr) (hr : Sent w 0 aR) :
    Calls Tryd.prog 24 #[.int .i64 n] w fun e w' => ∃ s E, e = .returned (.tuple #[.string ⟨s.toArray⟩, E]) ∧ Below w.heap.size w w' ∧
      ((okN n ∧ s = 99 :: bigB 4 n.toNat ∧ E = .nilIface) ∨ (¬ okN n ∧ s = [] ∧ ErrAt w' aR 1 E)) := by
  by_cases h : okN n
  · have h1 : numberB n = true := (okN_iff n).2 h
    have HH := Lib.hid h
    obtain ⟨h2, h3⟩ := h
    obtain ⟨m, rfl⟩ := Int.eq_ofNat_of_zero_le (show 0 ≤ n by omega)
    go_enter Tryd.func24, Tryd.ntmps24
    go_wp2_with (go_at_call 42; refine (number_any _ _).mono ?_; rintro e w' ⟨rfl, rfl⟩)
    refine (join_any [99] w.heap.size 0 1 [(m, 4)] _ (by decide) (by simp) (fun k hk => ?_) (by simp) (fun q hq => ?_)).mono ?_
    · match k, hk with
      | 0, _ => simp
    · simp at hq
      subst hq
      simp
      omega
    rintro e w1 ⟨rfl, hb⟩
    go_wp2
    go_ret2
    refine ⟨_, _, rfl, ((Below.refl _ _).alloc (Nat.le_refl _) _).trans (hb.mono (by simp)), .inl ⟨HH.out, ?_, rfl⟩⟩
    simp [joinB]
  · have h1 : numberB n = false := Bool.eq_false_iff.2 (fun e => h ((okN_iff n).1 e))
    have c := hr.1
    have HR := Lib.hid hr
    have HH := Lib.hid h
    clear hr h
    go_enter Tryd.func24, Tryd.ntmps24
    go_wp2_with (first
      | (go_at_call 42; refine (number_any _ _).mono ?_; rintro e w' ⟨rfl, rfl⟩)
      | (go_at_call 43; refine (new_any _ _ _ _).mono ?_; rintro e w' ⟨rfl, rfl⟩))
    go_ret2
    exact ⟨[], _, rfl, (Below.refl _ _).alloc (Nat.le_refl _) _, .inr ⟨HH.out, rfl, ErrAt.new HR.out _ _⟩⟩

set_option maxRecDepth 100000 in
theorem instKey_any (n : Int) (w : World) (aR : Addr) (hr : Sent w 0 aR) :
    Calls Tryd.prog 25 #[.int .i64 n] w fun e w' => ∃ s E, e = .returned (.tuple #[.string ⟨s.toArray⟩, E]) ∧ Below w.heap.size w w' ∧
      ((okN n ∧ s = 105 :: bigB 4 n.toNat ∧ E = .nilIface) ∨ (¬ okN n ∧ s = [] ∧ ErrAt w' aR 1 E)) := by
  by_cases h : okN n
  · have h1 : numberB n = true := (okN_iff n).2 h
    have HH := Lib.hid h
    obtain ⟨h2, h3⟩ := h
    obtain ⟨m, rfl⟩ := Int.eq_ofNat_of_zero_le (show 0 ≤ n by omega)
    go_enter Tryd.func25, Tryd.ntmps25
    go_wp2_with (go_at_call 42; refine (number_any _ _).mono ?_; rintro e w' ⟨rfl, rfl⟩)
    refine (join_any [105] w.heap.size 0 1 [(m, 4)] _ (by decide) (by simp) (fun k hk => ?_) (by simp) (fun q hq => ?_)).mono ?_
    · match k, hk with
      | 0, _ => simp
    · simp at hq
      subst hq
      simp
      omega
    rintro e w1 ⟨rfl, hb⟩
    go_wp2
    go_ret2
    refine ⟨_, _, rfl, ((Below.refl _ _).alloc (Nat.le_refl _) _).trans (hb.mono (by simp)), .inl ⟨HH.out, ?_, rfl⟩⟩
    simp [joinB]
  · have h1 : numberB n = false := Bool.eq_false_iff.2 (fun e => h ((okN_iff n).1 e))
    have c := hr.1
    have HR := Lib.hid hr
    have HH := Lib.hid h
    clear hr h
    go_enter Tryd.func25, Tryd.ntmps25
    go_wp2_with (first
      | (go_at_call 42; refine (number_any _ _).mono ?_; rintro e w' ⟨rfl, rfl⟩)
      | (go_at_call 43; refine (new_any _ _ _ _).mono ?_; rintro e w' ⟨rfl, rfl⟩))
    go_ret2
    exact ⟨[], _, rfl, (Below.refl _ _).alloc (Nat.le_refl _) _, .inr ⟨HH.out, rfl, ErrAt.new HR.out _ _⟩⟩

/-- index.NameKey: as the document's, its code as an error. -/
theorem inameKey_any (r : List UInt8) (hl : r.length ≤ 9223372036854775806) (w : World) (aF aL : Addr) (hf : Sent w 1 aF) (hg : Sent w 2 aL) :
    Calls Tryd.prog 32 #[.string ⟨r.toArray⟩] w fun e w' => ∃ E, e = .returned (.tuple #[.string ⟨(nkKey r).toArray⟩, E]) ∧ Below w.heap.size w w' ∧
      ((nkCode r = 0 ∧ E = .nilIface) ∨ (nkCode r = 1 ∧ ErrAt w' aF 1 E) ∨ (nkCode r = 8 ∧ ErrAt w' aL 1 E)) := by
  have hcat := fun W => run_cat (P := Tryd.prog) [110] r (by simp; omega) W
  have c1 := hf.1
  have c2 := hg.1
  have HF := Lib.hid hf
  have HG := Lib.hid hg
  clear hf hg
  by_cases k1 : nameB r = true
  · by_cases k2 : r.length ≤ 31
    · have kc : Hid (nkCode r = 0) := Lib.hid (by simp [nkCode, k1, k2])
      have g : ¬ (32 : Int) ≤ r.length := by omega
      go_enter Tryd.func32, Tryd.ntmps32
      go_wp2_with (go_at_call 49; refine (name_any r (by omega) _).mono ?_; rintro e w' ⟨rfl, rfl⟩)
      go_ret2
      rw [nkKey, kc.out, if_pos rfl]
      exact ⟨_, rfl, Below.refl _ _, .inl ⟨rfl, rfl⟩⟩
    · have kc : Hid (nkCode r = 8) := Lib.hid (by simp [nkCode, k1, k2])
      have g : (32 : Int) ≤ r.length := by omega
      go_enter Tryd.func32, Tryd.ntmps32
      go_wp2_with (first
        | (go_at_call 49; refine (name_any r (by omega) _).mono ?_; rintro e w' ⟨rfl, rfl⟩)
        | (go_at_call 43; refine (new_any _ _ _ _).mono ?_; rintro e w' ⟨rfl, rfl⟩))
      go_ret2
      rw [nkKey, kc.out, if_neg (by decide)]
      exact ⟨_, rfl, (Below.refl _ _).alloc (Nat.le_refl _) _, .inr (.inr ⟨rfl, ErrAt.new HG.out _ _⟩)⟩
  · have k1 : nameB r = false := Bool.eq_false_iff.2 k1
    have kc : Hid (nkCode r = 1) := Lib.hid (by simp [nkCode, k1])
    go_enter Tryd.func32, Tryd.ntmps32
    go_wp2_with (first
      | (go_at_call 49; refine (name_any r (by omega) _).mono ?_; rintro e w' ⟨rfl, rfl⟩)
      | (go_at_call 43; refine (new_any _ _ _ _).mono ?_; rintro e w' ⟨rfl, rfl⟩))
    go_ret2
    rw [nkKey, kc.out, if_neg (by decide)]
    exact ⟨_, rfl, (Below.refl _ _).alloc (Nat.le_refl _) _, .inr (.inl ⟨rfl, ErrAt.new HF.out _ _⟩)⟩

open Classical in
noncomputable def nuCode (n : Int) : Nat := if okN n then 0 else 2
open Classical in
noncomputable def nuKey (k : UInt8) (n : Int) : List UInt8 := if okN n then k :: bigB 4 n.toNat else []
theorem numbered_any (k : UInt8) (n : Int) (w : World) :
    Calls Tryd.prog 33 #[.string ⟨#[k]⟩, .int .i64 n] w fun e w' => e = .returned (.tuple #[.string ⟨(nuKey k n).toArray⟩, .int .i64 (nuCode n)]) ∧ Below w.heap.size w w' := by
  by_cases h : okN n
  · have h1 : numberB n = true := (okN_iff n).2 h
    have hk : Hid (nuKey k n = k :: bigB 4 n.toNat) := Lib.hid (if_pos h)
    have hc : Hid (nuCode n = 0) := Lib.hid (if_pos h)
    obtain ⟨h2, h3⟩ := h
    obtain ⟨m, rfl⟩ := Int.eq_ofNat_of_zero_le (show 0 ≤ n by omega)
    have hcat : ∀ W : World, (Op.stringOp .add ⟨#[k]⟩ ⟨(bigB 4 m).toArray⟩).run Tryd.prog W = .ok (.string ⟨(k :: bigB 4 m).toArray⟩) W := fun W => run_cat [k] (bigB 4 m) (by simp [bigB_len]) W
    go_enter Tryd.func33, Tryd.ntmps33
    go_wp2_with (first
      | (go_at_call 47; refine (rnumber_any _ _).mono ?_; rintro e w' ⟨rfl, rfl⟩)
      | (go_at_call 58; refine (big_len m 4 (by omega) (by omega) 4 rfl _).mono ?_; rintro e w1 ⟨rfl, hb1⟩))
    go_ret2
    rw [hk.out, hc.out]
    exact ⟨rfl, hb1⟩
  · have h1 : numberB n = false := Bool.eq_false_iff.2 (fun e => h ((okN_iff n).1 e))
    have hk : Hid (nuKey k n = []) := Lib.hid (if_neg h)
    have hc : Hid (nuCode n = 2) := Lib.hid (if_neg h)
    clear h
    go_enter Tryd.func33, Tryd.ntmps33
    go_wp2_with (go_at_call 47; refine (rnumber_any _ _).mono ?_; rintro e w' ⟨rfl, rfl⟩)
    go_ret2
    rw [hk.out, hc.out]
    exact ⟨rfl, Below.refl _ _⟩

theorem key07_any (l : List UInt8) (h : 0 < l.length) (h' : l.length ≤ 32) (w : World) :
    Calls Tryd.prog 36 #[.string ⟨l.toArray⟩] w fun e w' => e = .returned (.bool true) ∧ w = w' := by
  go_enter Tryd.func36, Tryd.ntmps36
  go_wp2
  go_ret
  exact ⟨by simp; omega, rfl⟩

/-! Plain: there and back -/
theorem valB_bigB (k : Nat) : ∀ n, n < 256 ^ k → valB (bigB k n) = n := by
  induction k with
  | zero => intro n hn; simp at hn; subst hn; rfl
  | succ k ih =>
    intro n hn
    rw [Nat.pow_succ] at hn
    rw [bigB_div, valB_snoc, ih _ (by omega)]
    simp only [UInt8.toNat_ofNat']
    omega
theorem num_back (k : UInt8) (hk : k = 99 ∨ k = 105) (n : Nat) (h1 : 1 ≤ n) (h2 : n ≤ 2147483647) : numOK (k :: bigB 4 n) = true ∧ numOf (k :: bigB 4 n) = n := by
  have hv : valB (bigB 4 n) = n := valB_bigB 4 n (by omega)
  have : numOK (k :: bigB 4 n) = true := by
    simp only [numOK, List.length_cons, bigB_len, List.drop_succ_cons, List.drop_zero, hv, hd, List.headD_cons]
    have : numberB n = true := by simp [numberB]; omega
    rw [this]
    rcases hk with rfl | rfl <;> rfl
  exact ⟨this, by rw [numOf, if_pos this, List.drop_succ_cons, List.drop_zero, hv]⟩
theorem tim_back (a i p : Nat) (ha : a ≤ 1099511627776) (hi : 1 ≤ i) (hi' : i ≤ 2147483647) (hp : p < 8) :
    timOK (timerKey a i p) = true ∧ tA (timerKey a i p) = a ∧ tI (timerKey a i p) = i ∧ tP (timerKey a i p) = p := by
  have e : timerKey a i p = 116 :: (bigB 6 a ++ (bigB 4 i ++ bigB 1 p)) := by simp [timerKey, joinB]
  have h1 : tA (timerKey a i p) = a := by
    rw [tA, e, List.drop_succ_cons, List.drop_zero, List.take_append_of_le_length (by simp [bigB_len]), List.take_of_length_le (by simp [bigB_len])]
    exact valB_bigB 6 a (by omega)
  have h2 : tI (timerKey a i p) = i := by
    rw [tI, e, List.drop_succ_cons, List.drop_append, bigB_len, List.drop_eq_nil_of_le (by simp [bigB_len])]
    simp only [Nat.sub_self, List.drop_zero, List.nil_append]
    rw [List.take_append_of_le_length (by simp [bigB_len]), List.take_of_length_le (by simp [bigB_len])]
    exact valB_bigB 4 i (by omega)
  have h3 : tP (timerKey a i p) = p := by
    rw [tP, e, List.drop_succ_cons, List.drop_append, bigB_len, List.drop_eq_nil_of_le (by simp [bigB_len]), List.nil_append, List.drop_append, bigB_len, List.drop_eq_nil_of_le (by simp [bigB_len])]
    simp only [List.nil_append]
    exact valB_bigB 1 p (by omega)
  refine ⟨?_, h1, h2, h3⟩
  rw [timOK_yes _ (by rw [e]; simp [bigB_len]) (by rw [e]; rfl), h1, h2, h3]
  simp [clockB, numberB]
  omega
theorem kind_tim (a i p : Nat) (ha : a ≤ 1099511627776) (hi : 1 ≤ i) (hi' : i ≤ 2147483647) (hp : p < 8) : kindOf (timerKey a i p) = 116 := by
  have h := (tim_back a i p ha hi hi' hp).1
  have : kindOK (timerKey a i p) = true := by simp [kindOK, h]
  rw [kindOf, if_pos this, tim_head _ h]
  rfl
end Go.Proofs.YtgakgdohbliaeaaDoor
