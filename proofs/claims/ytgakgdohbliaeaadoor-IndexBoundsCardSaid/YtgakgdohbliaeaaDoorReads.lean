/- What a text is as a key: index.Number, Name, Timer, Kind and the document's. -/
import Derived.Test.YtgakgdohbliaeaaDoorRead
import Derived.Test.YtgakgdohbliaeaaDoorText
import Derived.Test.YtgakgdohbliaeaaDoorJoin
namespace Go.Proofs.YtgakgdohbliaeaaDoor
open Go.RowKit

def hd (l : List UInt8) : UInt8 := l.headD 0
def numOK (l : List UInt8) : Bool := decide (l.length = 5) && (hd l == 99 || hd l == 105) && numberB (valB (l.drop 1))
def numOf (l : List UInt8) : Nat := if numOK l then valB (l.drop 1) else 0
def nameOK (l : List UInt8) : Bool := decide (l.length ≤ 32) && hd l == 110 && nameB (l.drop 1)
def nameOf (l : List UInt8) : List UInt8 := if nameOK l then l.drop 1 else []
def tA (l : List UInt8) : Nat := valB ((l.drop 1).take 6)
def tI (l : List UInt8) : Nat := valB ((l.drop 7).take 4)
def tP (l : List UInt8) : Nat := valB (l.drop 11)
def timOK (l : List UInt8) : Bool := decide (l.length = 12) && hd l == 116 && clockB (tA l) && numberB (tI l) && decide (tP l < 8)
def kindOK (l : List UInt8) : Bool := l == [109] || numOK l || nameOK l || timOK l
def kindOf (l : List UInt8) : Nat := if kindOK l then (hd l).toNat else 0

/-- What the walk knows of a text that is not empty. -/
structure Txt (P : Program) (ts : TypeId) (l : List UInt8) (c : UInt8) : Prop where
  len : l.length ≤ 9223372036854775807
  pos : 0 < l.length
  head : hd l = c
  at0 : (ByteArray.mk l.toArray)[0]'(by simpa [ByteArray.size] using pos) = c
  take1 : ∀ W : World, (Instr.slice ts (.string ⟨l.toArray⟩) none (some (.int .i64 1)) none).run P W = .ok (.string ⟨#[c]⟩) W
  drop1 : ∀ W : World, (Instr.slice ts (.string ⟨l.toArray⟩) (some (.int .i64 1)) none none).run P W = .ok (.string ⟨(l.drop 1).toArray⟩) W

theorem Txt.of {P : Program} {ts : TypeId} (h : P.underlying ts = some .string) (l : List UInt8) (hl : l.length ≤ 9223372036854775807) (hne : l ≠ []) : Txt P ts l (hd l) := by
  cases l with
  | nil => exact absurd rfl hne
  | cons c r =>
    refine ⟨hl, by simp, rfl, rfl, fun W => ?_, fun W => ?_⟩
    · have := run_upto (P := P) h (c :: r) 1 (by decide) (by simp; omega) W
      exact this
    · have := run_from (P := P) h (c :: r) 1 (by decide) (by simp; omega) W
      exact this

theorem numOK_no5 (l : List UInt8) (h : ¬ l.length = 5) : numOK l = false := by simp [numOK, h]
theorem numOK_5 (l : List UInt8) (h : l.length = 5) (c : UInt8) (hc : hd l = c) : numOK l = (!((c.toNat : Int) != 99 && (c.toNat : Int) != 105) && numberB (valB (l.drop 1))) := by
  have e : ∀ k : UInt8, (c == k) = !((c.toNat : Int) != k.toNat) := fun k => by
    rw [Bool.eq_iff_iff]
    simp [← UInt8.toNat_inj]
    omega
  simp only [numOK, h, hc, decide_true, Bool.true_and, e, ← Bool.not_and]
  rfl

set_option maxHeartbeats 1000000 in
set_option maxRecDepth 100000 in
theorem inumber_any (l : List UInt8) (hl : l.length ≤ 9223372036854775807) (w : World) :
    Calls Tryd.prog 15 #[.string ⟨l.toArray⟩] w fun e w' => e = .returned (.tuple #[.int .i64 (numOf l), .bool (numOK l)]) ∧ Below w.heap.size w w' := by
  by_cases h5 : l.length = 5
  · have hne : l ≠ [] := by rintro rfl; simp at h5
    obtain ⟨_, hpos, hh, h0, _, hd1⟩ := Txt.of Tryd.underlying9 l hl hne
    have e5 : ((l.length : Int) != 5) = false := by rw [h5]; rfl
    have hN := Lib.hid (numOK_5 l h5 (hd l) rfl)
    have hr : (l.drop 1).length ≤ 6 := by simp; omega
    have hO : Hid (numOf l = if numOK l then valB (l.drop 1) else 0) := Lib.hid rfl
    generalize hd l = c at *
    generalize l.drop 1 = r at *
    clear h5 hne hh
    generalize numOK l = nk at *
    generalize numOf l = no at *
    go_enter Tryd.func15, Tryd.ntmps15
    go_wp2_with (first
      | (go_at_call 46; refine (read_any r hr _).mono ?_; rintro e w1 ⟨rfl, hb1⟩; have HB := Lib.hid hb1; clear hb1)
      | (go_at_call 42; refine (number_any _ _).mono ?_; rintro e w' ⟨rfl, rfl⟩))
    all_goals
      go_ret2
      refine ⟨?_, by first | exact Below.refl _ _ | exact HB.out⟩
      clear hd1 h0
      rw [hO.out, hN.out]
      simp_all
  · have e5 : ((l.length : Int) != 5) = true := by rw [bne_iff_ne]; omega
    have hN := Lib.hid (numOK_no5 l h5)
    clear h5
    go_enter Tryd.func15, Tryd.ntmps15
    go_wp2_with fail
    go_ret2
    refine ⟨?_, Below.refl _ _⟩
    rw [numOf, hN.out]
    rfl

theorem u8_eq (c k : UInt8) : (c == k) = !((c.toNat : Int) != k.toNat) := by
  rw [Bool.eq_iff_iff]
  simp [← UInt8.toNat_inj]
  omega
theorem u8_prop (c k : UInt8) : ((c.toNat : Int) = k.toNat) = (c = k) := by
  rw [eq_iff_iff, ← UInt8.toNat_inj]
  omega

set_option maxHeartbeats 1000000 in
set_option maxRecDepth 100000 in
theorem rnum_any (l : List UInt8) (hl : l.length ≤ 9223372036854775807) (w : World) :
    Calls Tryd.prog 16 #[.string ⟨l.toArray⟩] w fun e w' => e = .returned (.tuple #[.int .i64 (numOf l), .bool (numOK l)]) ∧ Below w.heap.size w w' := by
  by_cases h5 : l.length = 5
  · have hne : l ≠ [] := by rintro rfl; simp at h5
    obtain ⟨_, hpos, hh, h0, ht1, hd1⟩ := Txt.of Tryd.underlying9 l hl hne
    have e5 : ((l.length : Int) != 5) = false := by rw [h5]; rfl
    have hN := Lib.hid (numOK_5 l h5 (hd l) rfl)
    have hr : (l.drop 1).length ≤ 6 := by simp; omega
    have hO : Hid (numOf l = if numOK l then valB (l.drop 1) else 0) := Lib.hid rfl
    generalize hd l = c at *
    generalize l.drop 1 = r at *
    clear h5 hne hh
    generalize numOK l = nk at *
    generalize numOf l = no at *
    have q1 := u8_prop c 99
    have q2 := u8_prop c 105
    have Q1 := Lib.hid q1
    have Q2 := Lib.hid q2
    clear q1 q2
    go_enter Tryd.func16, Tryd.ntmps16
    go_wp2_with (first
      | (go_at_call 48; refine (small_any r hr _).mono ?_; rintro e w' ⟨rfl, rfl⟩)
      | (go_at_call 47; refine (rnumber_any _ _).mono ?_; rintro e w' ⟨rfl, rfl⟩))
    all_goals
      go_ret2
      refine ⟨?_, Below.refl _ _⟩
      clear hd1 h0 ht1
      have Q1 : ((c.toNat : Int) = 99) = (c = 99) := Q1.out
      have Q2 : ((c.toNat : Int) = 105) = (c = 105) := Q2.out
      rw [hO.out, hN.out]
      simp_all
  · have e5 : ((l.length : Int) != 5) = true := by rw [bne_iff_ne]; omega
    have hN := Lib.hid (numOK_no5 l h5)
    clear h5
    go_enter Tryd.func16, Tryd.ntmps16
    go_wp2_with fail
    go_ret2
    refine ⟨?_, Below.refl _ _⟩
    rw [numOf, hN.out]
    rfl

set_option maxHeartbeats 1000000 in
set_option maxRecDepth 100000 in
theorem iname_any (l : List UInt8) (hl : l.length ≤ 9223372036854775807) (w : World) :
    Calls Tryd.prog 17 #[.string ⟨l.toArray⟩] w fun e w' => e = .returned (.tuple #[.string ⟨(nameOf l).toArray⟩, .bool (nameOK l)]) ∧ w = w' := by
  by_cases hne : l = []
  · subst hne
    go_enter Tryd.func17, Tryd.ntmps17
    go_wp2_with fail
    go_ret2
    exact ⟨rfl, rfl⟩
  · obtain ⟨_, hpos, hh, h0, ht1, hd1⟩ := Txt.of Tryd.underlying9 l hl hne
    have hlen : (l.drop 1).length = l.length - 1 := by simp
    have hN : Hid (nameOK l = (decide (l.length ≤ 32) && !(((hd l).toNat : Int) != 110) && nameB (l.drop 1))) := by
      refine Lib.hid ?_
      rw [nameOK, u8_eq]
      rfl
    have hO : Hid (nameOf l = if nameOK l then l.drop 1 else []) := Lib.hid rfl
    have hE : Hid (l.length ≤ 1 → nameB (l.drop 1) = false) := Lib.hid fun h => by
      have : l.drop 1 = [] := List.drop_eq_nil_of_le h
      rw [this]
      rfl
    generalize hd l = c at *
    generalize l.drop 1 = r at *
    have HL := Lib.hid hlen
    clear hlen hne hh
    generalize nameOK l = nk at *
    generalize nameOf l = no at *
    have fin : ∀ b : Bool, nk = b → (no = if b then r else []) := fun b hb => by rw [hO.out, hb]
    have FIN := Lib.hid fin
    clear fin
    have K : Hid (l.length < 2 ∨ 32 < l.length ∨ ((c.toNat : Int) != 110) = true ∨ nameB r = false → nk = false) := Lib.hid (by
      rw [hN.out]
      intro h
      rcases h with h | h | h | h
      · rw [hE.out (by omega)]; simp
      · have : ¬ l.length ≤ 32 := by omega
        simp [this]
      · rw [h]; simp
      · rw [h]; simp)
    by_cases k1 : l.length < 2
    · have kn := Lib.hid (K.out (.inl k1))
      go_enter Tryd.func17, Tryd.ntmps17
      go_wp2_with fail
      go_ret2
      rw [FIN.out _ kn.out, kn.out]
      exact ⟨rfl, rfl⟩
    by_cases k2 : 32 < l.length
    · have kn := Lib.hid (K.out (.inr (.inl k2)))
      go_enter Tryd.func17, Tryd.ntmps17
      go_wp2_with fail
      go_ret2
      rw [FIN.out _ kn.out, kn.out]
      exact ⟨rfl, rfl⟩
    by_cases k3 : ((c.toNat : Int) != 110) = true
    · have kn := Lib.hid (K.out (.inr (.inr (.inl k3))))
      go_enter Tryd.func17, Tryd.ntmps17
      go_wp2_with fail
      go_ret2
      rw [FIN.out _ kn.out, kn.out]
      exact ⟨rfl, rfl⟩
    have k3 : ((c.toNat : Int) != 110) = false := Bool.eq_false_iff.2 k3
    by_cases k4 : nameB r = true
    · have kn : Hid (nk = true) := Lib.hid (by
        rw [hN.out, k3, k4]
        simp
        omega)
      go_enter Tryd.func17, Tryd.ntmps17
      go_wp2_with (go_at_call 49; refine (name_any r (by have := HL.out; omega) _).mono ?_; rintro e w' ⟨rfl, rfl⟩)
      go_ret2
      rw [FIN.out _ kn.out, kn.out]
      exact ⟨rfl, rfl⟩
    · have k4 : nameB r = false := Bool.eq_false_iff.2 k4
      have kn := Lib.hid (K.out (.inr (.inr (.inr k4))))
      go_enter Tryd.func17, Tryd.ntmps17
      go_wp2_with (go_at_call 49; refine (name_any r (by have := HL.out; omega) _).mono ?_; rintro e w' ⟨rfl, rfl⟩)
      go_ret2
      rw [FIN.out _ kn.out, kn.out]
      exact ⟨rfl, rfl⟩

/-- The document's NameKey: the key, the code. -/
def nkCode (r : List UInt8) : Nat := if nameB r then (if r.length ≤ 31 then 0 else 8) else 1
def nkKey (r : List UInt8) : List UInt8 := if nkCode r = 0 then 110 :: r else []
theorem rnameKey_any (r : List UInt8) (hl : r.length ≤ 9223372036854775806) (w : World) :
    Calls Tryd.prog 34 #[.string ⟨r.toArray⟩] w fun e w' => e = .returned (.tuple #[.string ⟨(nkKey r).toArray⟩, .int .i64 (nkCode r)]) ∧ w = w' := by
  have hcat := fun W => run_cat (P := Tryd.prog) [110] r (by simp; omega) W
  by_cases k1 : nameB r = true
  · by_cases k2 : r.length ≤ 31
    · have kc : Hid (nkCode r = 0) := Lib.hid (by simp [nkCode, k1, k2])
      have g : ¬ (31 : Int) < r.length := by omega
      go_enter Tryd.func34, Tryd.ntmps34
      go_wp2_with (go_at_call 59; refine (rname_any r (by omega) _).mono ?_; rintro e w' ⟨rfl, rfl⟩)
      go_ret2
      rw [nkKey, kc.out, if_pos rfl]
      exact ⟨rfl, rfl⟩
    · have kc : Hid (nkCode r = 8) := Lib.hid (by simp [nkCode, k1, k2])
      have g : (31 : Int) < r.length := by omega
      go_enter Tryd.func34, Tryd.ntmps34
      go_wp2_with (go_at_call 59; refine (rname_any r (by omega) _).mono ?_; rintro e w' ⟨rfl, rfl⟩)
      go_ret2
      rw [nkKey, kc.out, if_neg (by decide)]
      exact ⟨rfl, rfl⟩
  · have k1 : nameB r = false := Bool.eq_false_iff.2 k1
    have kc : Hid (nkCode r = 1) := Lib.hid (by simp [nkCode, k1])
    go_enter Tryd.func34, Tryd.ntmps34
    go_wp2_with (go_at_call 59; refine (rname_any r (by omega) _).mono ?_; rintro e w' ⟨rfl, rfl⟩)
    go_ret2
    rw [nkKey, kc.out, if_neg (by decide)]
    exact ⟨rfl, rfl⟩
end Go.Proofs.YtgakgdohbliaeaaDoor
