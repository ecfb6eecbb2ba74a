/- record.timers, memories. -/
import Derived.Test.YtbnanjcghhfcpaaDoorRec1
namespace Go.Proofs.YtbnanjcghhfcpaaDoor
open Go.RowKit

theorem less_swap : ∀ a b : List UInt8, Op.bytesLess b a = !(Op.bytesLess a b || a == b)
  | [], [] => rfl
  | [], _ :: _ => rfl
  | _ :: _, [] => rfl
  | x :: a, y :: b => by
    have ih := less_swap a b
    simp only [Op.bytesLess, List.cons_beq_cons, ih]
    by_cases h : x = y
    · subst h
      simp
    · have h' : ¬ y = x := fun e => h e.symm
      have e1 : (x == y) = false := by simpa using h
      have e2 : (y == x) = false := by simpa using h'
      have e3 : decide (y < x) = !decide (x < y) := by
        rw [Bool.eq_iff_iff]
        simp [UInt8.lt_iff_toNat_lt]
        have : x.toNat ≠ y.toNat := fun e => h (UInt8.toNat_inj.1 e)
        omega
      simp [e1, e2, e3]

/-- A timer's cells. -/
def tmR (cs : List Value) (t : List UInt8 × Int) : Prop := cs = [.string ⟨t.1.toArray⟩, .int .i64 t.2] ∧ t.1.length ≤ 9223372036854775807
theorem tms_at {w : World} {B n c : Nat} {A : Option Addr} {l : List (List UInt8 × Int)} (h : ListAt w B 2 tmR (.slice A n c) l) (k : Nat) (hk : k < l.length) :
    ∃ b off, A = some ⟨b, off, none⟩ ∧ b < B ∧ ∀ j, j < l.length → w.cell? ⟨b, off + j * 2, none⟩ = some (.string ⟨(l.getD j ([], 0)).1.toArray⟩) ∧ w.cell? ⟨b, off + j * 2 + 1, none⟩ = some (.int .i64 (l.getD j ([], 0)).2) ∧ (l.getD j ([], 0)).1.length ≤ 9223372036854775807 := by
  obtain ⟨b, off, cs, rfl, hb, _⟩ := h.elem k hk
  refine ⟨b, off, rfl, hb, fun j hj => ?_⟩
  obtain ⟨b', off', cs', e, _, ⟨rfl, hl⟩, _, hc⟩ := h.elem j hj
  cases e
  rw [getD_get l j _ hj]
  exact ⟨hc 0 _ rfl, hc 1 _ rfl, hl⟩

set_option maxHeartbeats 2000000 in
set_option maxRecDepth 100000 in
theorem timers_any (v : Value) (l : List (List UInt8 × Int)) (w : World) (h : ListAt w w.heap.size 2 tmR v l) :
    Calls Tryd.prog 55 #[v] w fun e w' => e = .returned (.bool (timersB l)) ∧ Below w.heap.size w w' := by
  obtain ⟨A, c, rfl, hlc, hcm⟩ := h.form
  unfold maxLen at hcm
  have HL := Lib.hid h
  clear h
  go_enter Tryd.func55, Tryd.ntmps55
  go_wp2
  go_loopw [7] (fun i wr => ∃ k : Nat, k ≤ l.length ∧ i = .int .i64 k ∧ (∀ j, j < k → tmAt l j = true) ∧ Below w.heap.size w wr) (fun i _ => l.length - (intOf i).toNat)
  case atStart => exact ⟨0, by omega, rfl, (fun j hj => by omega), Below.refl _ _⟩
  case round =>
    obtain ⟨k, hk, rfl, hall, hB⟩ := hrel
    have HA := Lib.hid hall
    have HB := Lib.hid hB
    have hsz := hB.size
    clear hall
    by_cases hlt : k < l.length
    · obtain ⟨b, off, rfl, hb, hc⟩ := tms_at HL.out k hlt
      obtain ⟨c1, c2, hnl⟩ := hc k hlt
      have hbw : b < wr.heap.size := by omega
      have c1 := (hB.cell (p := ⟨b, off + k * 2, none⟩) hb).trans c1
      have c2 := (hB.cell (p := ⟨b, off + k * 2 + 1, none⟩) hb).trans c2
      have HS : Hid (tmAt l k = (nameB (l.getD k ([], 0)).1 && clkB (l.getD k ([], 0)).2 && (decide (k = 0) || Op.bytesLess (l.getD (k - 1) ([], 0)).1 (l.getD k ([], 0)).1))) := Lib.hid rfl
      have fin : Hid (tmAt l k = true → ∀ j, j < k + 1 → tmAt l j = true) := Lib.hid (fun hb j hj => by
        rcases Nat.lt_or_ge j k with h | h
        · exact HA.out j h
        · obtain rfl : j = k := by omega
          exact hb)
      have bad : Hid (tmAt l k = false → timersB l = false) := Lib.hid (fun h => by rw [timersB, allB_false hlt h]; rfl)
      cases k with
      | zero =>
        rw [Nat.zero_mul, Nat.add_zero] at c1 c2
        clear hc hB
        generalize (l.getD 0 ([], 0)).1 = nm at *
        generalize (l.getD 0 ([], 0)).2 = x at *
        cases h1 : nameB nm <;> cases h2 : clkB x
        all_goals
          go_wp2
          go_quiet (first | (go_at_call 20; exact quiet_left (name_any nm hnl _)) | (go_at_call 51; exact quiet_left (rclk_any x _)))
          go_wp2
          first
            | (go_roundw
               case rel => exact ⟨1, by omega, rfl, fin.out (by rw [HS.out, h1, h2]; rfl), below_drewN (HB.out.alloc hsz _) _⟩
               case measure => simp [intOf]; omega)
            | (go_ret
               rw [bad.out (by rw [HS.out, h1, h2]; rfl)]
               exact ⟨rfl, below_drewN (HB.out.alloc hsz _) _⟩)
      | succ k =>
        obtain ⟨d1, d2, _⟩ := hc k (by omega)
        have d1 := (hB.cell (p := ⟨b, off + k * 2, none⟩) hb).trans d1
        rw [Nat.add_sub_cancel] at HS
        clear hc hB d2
        generalize (l.getD (k + 1) ([], 0)).1 = nm at *
        generalize (l.getD (k + 1) ([], 0)).2 = x at *
        generalize (l.getD k ([], 0)).1 = pv at *
        rw [less_swap nm pv] at HS
        cases h1 : nameB nm <;> cases h2 : clkB x <;> cases h3 : Op.bytesLess nm pv <;> cases h4 : (nm == pv)
        all_goals
          go_wp2
          have q1 : IntKind.i64.wrap (k : Int) = (k : Int) := IntWalk.i64_in _ (by omega)
          have q2 : (0 : Int) ≤ (k : Int) := by omega
          have q3 : (k : Int) < (l.length : Int) := by omega
          have q4 : (k : Int).toNat = k := by omega
          go_quiet (first | (go_at_call 20; exact quiet_left (name_any nm hnl _)) | (go_at_call 51; exact quiet_left (rclk_any x _)))
          clear q1 q2 q3 q4
          go_wp2
          first
            | (go_roundw
               case rel => exact ⟨k + 1 + 1, by omega, by go_num, fin.out (by rw [HS.out, h1, h2, h3, h4]; simp), below_drewN (HB.out.alloc hsz _) _⟩
               case measure => simp [intOf]; omega)
            | (go_ret
               rw [bad.out (by rw [HS.out, h1, h2, h3, h4]; simp)]
               exact ⟨rfl, below_drewN (HB.out.alloc hsz _) _⟩)
    · obtain rfl : k = l.length := by omega
      have e : Hid (timersB l = decide (l.length ≤ 8)) := Lib.hid (by rw [timersB, allB_true HA.out]; rfl)
      clear hB
      go_wp2
      go_ret
      rw [e.out]
      refine ⟨?_, HB.out⟩
      first | rfl | (congr 2; simp; omega)

/-- A memory's cells: its state, and a slice that holds its states. -/
def memR (w : World) (B : Nat) (cs : List Value) (m : Int × List Int) : Prop := ∃ v, cs = [.int .i64 m.1, v] ∧ ListAt w B 1 intR v m.2
theorem memR_moved {w w' : World} {B : Nat} (hk : ∀ b off, b < B → w'.cell? ⟨b, off, none⟩ = w.cell? ⟨b, off, none⟩) (cs : List Value) (m : Int × List Int) (h : memR w B cs m) : memR w' B cs m := by
  obtain ⟨v, e, h⟩ := h
  exact ⟨v, e, h.moved hk fun _ _ _ h => h⟩
theorem mems_at {w : World} {B n c : Nat} {A : Option Addr} {l : List (Int × List Int)} (h : ListAt w B 2 (memR w B) (.slice A n c) l) (k : Nat) (hk : k < l.length) :
    ∃ b off, A = some ⟨b, off, none⟩ ∧ b < B ∧ ∀ j, j < l.length → ∃ v, w.cell? ⟨b, off + j * 2, none⟩ = some (.int .i64 (l.getD j (0, [])).1) ∧ w.cell? ⟨b, off + j * 2 + 1, none⟩ = some v ∧ ListAt w B 1 intR v (l.getD j (0, [])).2 := by
  obtain ⟨b, off, cs, rfl, hb, _⟩ := h.elem k hk
  refine ⟨b, off, rfl, hb, fun j hj => ?_⟩
  obtain ⟨b', off', cs', e, _, ⟨v, rfl, hl⟩, _, hc⟩ := h.elem j hj
  cases e
  rw [getD_get l j _ hj]
  exact ⟨v, hc 0 _ rfl, hc 1 _ rfl, hl⟩
end Go.Proofs.YtbnanjcghhfcpaaDoor
