/- index.Bounds, index.Until, and the walk of IndexBounds. -/
import Derived.Test.YtgakgdohbliaeaaDoorKeys
import Derived.RegionTactic
import Derived.Deep.DeepCutAuto
namespace Go.Proofs.YtgakgdohbliaeaaDoor
open Go.RowKit

def knownB (k : Int) : Bool := decide (k = 109 ∨ k = 99 ∨ k = 110 ∨ k = 105 ∨ k = 116)
def bFrom (k : Int) : List UInt8 := if knownB k then [UInt8.ofNat k.toNat] else []
def bTo (k : Int) : List UInt8 := if knownB k then [UInt8.ofNat (k.toNat + 1)] else []

/-- A byte in a row of one, as a text, whatever the world. -/
theorem byte_text {P : Program} {ts e td : TypeId} (hs : P.underlying ts = some (.slice e)) (he : P.underlying e = some (.int .u8)) (hd : P.underlying td = some .string) (m : Nat) (w : World) (b : Nat) (h : w.cell? ⟨b, 0, none⟩ = some (.int .u8 (m : Int))) :
    (convert ts td (.slice (some ⟨b, 0, none⟩) 1 1)).run P w = .ok (.string ⟨#[UInt8.ofNat m]⟩) w := by
  have := run_convert_bytes_arg (P := P) w ts e hs he b 0 1 1 [(m : Int)] rfl (fun i hi => by
    obtain rfl : i = 0 := by omega
    exact h) td hd
  rw [this]
  rfl

set_option maxHeartbeats 2000000 in
set_option maxRecDepth 100000 in
theorem bounds_any (k : Int) (w : World) :
    Calls Tryd.prog 21 #[.int .u8 k] w fun e w' => e = .returned (.tuple #[.string ⟨(bFrom k).toArray⟩, .string ⟨(bTo k).toArray⟩]) ∧ Below w.heap.size w w' := by
  by_cases hk : k = 109 ∨ k = 99 ∨ k = 110 ∨ k = 105 ∨ k = 116
  · have fin : ∀ m : Nat, k = m → (m = 109 ∨ m = 99 ∨ m = 110 ∨ m = 105 ∨ m = 116) → Calls Tryd.prog 21 #[.int .u8 k] w fun e w' => e = .returned (.tuple #[.string ⟨(bFrom k).toArray⟩, .string ⟨(bTo k).toArray⟩]) ∧ Below w.heap.size w w' := by
      rintro m rfl hm
      clear hk
      rcases hm with rfl | rfl | rfl | rfl | rfl
      · have c1 := byte_text (P := Tryd.prog) Tryd.underlying49 Tryd.underlying5 Tryd.underlying9 109
        have c2 := byte_text (P := Tryd.prog) Tryd.underlying49 Tryd.underlying5 Tryd.underlying9 110
        go_enter Tryd.func21, Tryd.ntmps21
        go_wp2_with fail
        go_region
        all_goals
          go_wp2_with fail
          go_ret2
          exact ⟨rfl, by go_grown⟩
      · have c1 := byte_text (P := Tryd.prog) Tryd.underlying49 Tryd.underlying5 Tryd.underlying9 99
        have c2 := byte_text (P := Tryd.prog) Tryd.underlying49 Tryd.underlying5 Tryd.underlying9 100
        go_enter Tryd.func21, Tryd.ntmps21
        go_wp2_with fail
        go_region
        all_goals
          go_wp2_with fail
          go_ret2
          exact ⟨rfl, by go_grown⟩
      · have c1 := byte_text (P := Tryd.prog) Tryd.underlying49 Tryd.underlying5 Tryd.underlying9 110
        have c2 := byte_text (P := Tryd.prog) Tryd.underlying49 Tryd.underlying5 Tryd.underlying9 111
        go_enter Tryd.func21, Tryd.ntmps21
        go_wp2_with fail
        go_region
        all_goals
          go_wp2_with fail
          go_ret2
          exact ⟨rfl, by go_grown⟩
      · have c1 := byte_text (P := Tryd.prog) Tryd.underlying49 Tryd.underlying5 Tryd.underlying9 105
        have c2 := byte_text (P := Tryd.prog) Tryd.underlying49 Tryd.underlying5 Tryd.underlying9 106
        go_enter Tryd.func21, Tryd.ntmps21
        go_wp2_with fail
        go_region
        all_goals
          go_wp2_with fail
          go_ret2
          exact ⟨rfl, by go_grown⟩
      · have c1 := byte_text (P := Tryd.prog) Tryd.underlying49 Tryd.underlying5 Tryd.underlying9 116
        have c2 := byte_text (P := Tryd.prog) Tryd.underlying49 Tryd.underlying5 Tryd.underlying9 117
        go_enter Tryd.func21, Tryd.ntmps21
        go_wp2_with fail
        go_region
        all_goals
          go_wp2_with fail
          go_ret2
          exact ⟨rfl, by go_grown⟩
    exact fin k.toNat (by omega) (by omega)
  · have e1 : (k == 109) = false := by simp; omega
    have e2 : (k == 99) = false := by simp; omega
    have e3 : (k == 110) = false := by simp; omega
    have e4 : (k == 105) = false := by simp; omega
    have e5 : (k == 116) = false := by simp; omega
    have hf : Hid (bFrom k = []) := Lib.hid (by simp [bFrom, knownB]; omega)
    have ht : Hid (bTo k = []) := Lib.hid (by simp [bTo, knownB]; omega)
    clear hk
    go_enter Tryd.func21, Tryd.ntmps21
    go_wp2_with fail
    go_ret2
    rw [hf.out, ht.out]
    exact ⟨rfl, Below.refl _ _⟩

set_option maxRecDepth 100000 in
theorem until_any (n : Int) (w : World) (aR : Addr) (hr : Sent w 0 aR) :
    Calls Tryd.prog 22 #[.int .i64 n] w fun e w' => ∃ s t E, e = .returned (.tuple #[.string ⟨s.toArray⟩, .string ⟨t.toArray⟩, E]) ∧ Below w.heap.size w w' ∧
      ((clockB n = true ∧ s = [116] ∧ t = 116 :: bigB 6 (n.toNat + 1) ∧ E = .nilIface) ∨ (clockB n = false ∧ s = [] ∧ t = [] ∧ ErrAt w' aR 1 E)) := by
  by_cases h : clockB n = true
  · have HH := Lib.hid h
    obtain ⟨h2, h3⟩ : 0 ≤ n ∧ n ≤ 1099511627776 := by simpa [clockB] using h
    obtain ⟨m, rfl⟩ := Int.eq_ofNat_of_zero_le h2
    go_enter Tryd.func22, Tryd.ntmps22
    go_wp2_with (go_at_call 41; refine (clock_any _ _).mono ?_; rintro e w' ⟨rfl, rfl⟩)
    refine (join_any [116] w.heap.size 0 1 [(m + 1, 6)] _ (by decide) (by simp) (fun k hk => ?_) (by simp) (fun q hq => ?_)).mono ?_
    · match k, hk with
      | 0, _ => simp
    · simp at hq
      subst hq
      simp
      omega
    rintro e w1 ⟨rfl, hb⟩
    go_wp2
    go_ret3
    refine ⟨_, _, _, rfl, ((Below.refl _ _).alloc (Nat.le_refl _) _).trans (hb.mono (by simp)), .inl ⟨HH.out, rfl, ?_, rfl⟩⟩
    simp [joinB]
  · have h1 : clockB n = false := Bool.eq_false_iff.2 h
    have c := hr.1
    have HR := Lib.hid hr
    have HH := Lib.hid h1
    clear hr h
    go_enter Tryd.func22, Tryd.ntmps22
    go_wp2_with (first
      | (go_at_call 41; refine (clock_any _ _).mono ?_; rintro e w' ⟨rfl, rfl⟩)
      | (go_at_call 43; refine (new_any _ _ _ _).mono ?_; rintro e w' ⟨rfl, rfl⟩))
    go_ret3
    exact ⟨[], [], _, rfl, (Below.refl _ _).alloc (Nat.le_refl _) _, .inr ⟨HH.out, rfl, rfl, ErrAt.new HR.out _ _⟩⟩

/-! Plain: keys between bounds -/
theorem less_head (c d : UInt8) (l : List UInt8) : Op.bytesLess (c :: l) [d] = decide (c < d) := by
  cases l <;> simp [Op.bytesLess]
theorem between_kind (l : List UInt8) (k : UInt8) (hk : k = 109 ∨ k = 99 ∨ k = 110 ∨ k = 105 ∨ k = 116) (hl : kindOK l = true) :
    (!(Op.bytesLess l [k]) && Op.bytesLess l [k + 1]) = (hd l == k) := by
  have hne : l ≠ [] := by rintro rfl; exact absurd hl (by decide)
  cases l with
  | nil => exact absurd rfl hne
  | cons c r =>
    rw [less_head, less_head]
    simp only [hd, List.headD_cons]
    rw [Bool.eq_iff_iff]
    simp only [Bool.and_eq_true, Bool.not_eq_true', decide_eq_false_iff_not, decide_eq_true_eq, beq_iff_eq, UInt8.lt_iff_toNat_lt, ← UInt8.toNat_inj]
    rcases hk with rfl | rfl | rfl | rfl | rfl <;> simp <;> omega

theorem bigB_valB (l : List UInt8) : bigB l.length (valB l) = l := by
  have : ∀ k, k ≤ l.length → bigB k (valB (l.take k)) = l.take k := by
    intro k
    induction k with
    | zero => intro _; rfl
    | succ k ih =>
      intro h
      have hk : k < l.length := by omega
      rw [bigB_div, valB_take l k hk]
      have h1 : (valB (l.take k) * 256 + l[k].toNat) / 256 = valB (l.take k) := by have := l[k].toNat_lt; omega
      rw [h1, ih (by omega), List.take_succ_eq_append_getElem hk]
      congr 2
      apply UInt8.toNat_inj.1
      have := l[k].toNat_lt
      simp only [UInt8.toNat_ofNat']
      omega
  have h := this l.length (Nat.le_refl _)
  rwa [List.take_length] at h

theorem until_tim (l : List UInt8) (n : Nat) (hn : n ≤ 1099511627776) (h : timOK l = true) :
    (!(Op.bytesLess l [116]) && Op.bytesLess l (116 :: bigB 6 (n + 1))) = decide (tA l ≤ n) := by
  have h12 : l.length = 12 := by
    simp only [timOK, Bool.and_eq_true, decide_eq_true_eq] at h
    exact h.1.1.1.1
  have hh := tim_head l h
  cases l with
  | nil => simp at h12
  | cons c r =>
    simp only [hd, List.headD_cons] at hh
    subst hh
    rw [less_head]
    have e : r = bigB 6 (valB (r.take 6)) ++ r.drop 6 := by
      have := bigB_valB (r.take 6)
      rw [show (r.take 6).length = 6 by simp at h12 ⊢; omega] at this
      rw [this, List.take_append_drop]
    have hlt : valB (r.take 6) < 256 ^ 6 := valB_lt_take r 6 (by simp at h12; omega)
    have ha : tA (116 :: r) = valB (r.take 6) := by simp [tA]
    rw [ha]
    have e2 : Op.bytesLess (116 :: r) (116 :: bigB 6 (n + 1)) = Op.bytesLess r (bigB 6 (n + 1)) := by simp [Op.bytesLess]
    rw [e2]
    have := less_bigB 6 (valB (r.take 6)) (n + 1) (r.drop 6) [] hlt (by omega)
    rw [← e, List.append_nil] at this
    rw [this]
    by_cases hq : valB (r.take 6) = n + 1
    · rw [if_pos hq]
      have : Op.bytesLess (r.drop 6) [] = false := by cases r.drop 6 <;> rfl
      rw [this, hq]
      simp
    · rw [if_neg hq]
      simp
      omega
theorem until_not (l : List UInt8) (x : List UInt8) (hk : kindOK l = true) (h : timOK l = false) : (!(Op.bytesLess l [116]) && Op.bytesLess l x) = false := by
  have hne : l ≠ [] := by rintro rfl; exact absurd hk (by decide)
  cases l with
  | nil => exact absurd rfl hne
  | cons c r =>
    have hc : c < 116 := by
      have h1 := eqm_head (c :: r)
      have h2 := num_head (c :: r)
      have h3 := name_head (c :: r)
      rw [kindOK, h, Bool.or_false, Bool.or_eq_true, Bool.or_eq_true] at hk
      simp only [hd, List.headD_cons] at h1 h2 h3
      rcases hk with (hk | hk) | hk
      · rw [h1 hk]; decide
      · rcases h2 hk with e | e <;> rw [e] <;> decide
      · rw [h3 hk]; decide
    rw [less_head]
    simp [hc]
end Go.Proofs.YtgakgdohbliaeaaDoor
