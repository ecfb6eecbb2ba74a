/- record.memories, Check. -/
import Derived.Test.YtbnanjcghhfcpaaDoorRec2
import Derived.Test.YtbnanjcghhfcpaaDoorRegion
namespace Go.Proofs.YtbnanjcghhfcpaaDoor
open Go.RowKit

theorem below_cellEq {B : Nat} {w w' : World} (hb : Below B w w') : ∀ b off, b < B → w'.cell? ⟨b, off, none⟩ = w.cell? ⟨b, off, none⟩ := fun b off h => hb.cell (p := ⟨b, off, none⟩) h
theorem states_in {w W : World} {v : Value} {l : List Int} (h : ListAt w w.heap.size 1 intR v l) (hb : Below w.heap.size w W) :
    Calls Tryd.prog 52 #[v] W fun e w' => e = .returned (.bool (statesB l)) ∧ W = w' :=
  states_any v l _ W (h.moved (below_cellEq hb) fun _ _ _ h => h)
/-- states of one state that stands in a new block. -/
theorem states_one {W : World} {X : Nat} {x : Int} (h : W.cell? ⟨X, 0, none⟩ = some (.int .i64 x)) :
    Calls Tryd.prog 52 #[.slice (some ⟨X, 0, none⟩) 1 1] W fun e w' => e = .returned (.bool (statesB [x])) ∧ W = w' := by
  refine states_any _ [x] (X + 1) W (ListAt.of_one rfl (Nat.le_refl _) (by unfold maxLen; omega) ⟨by simp, fun _ => ⟨X, 0, rfl, by omega, fun j u hu => ?_⟩⟩)
  have : j = 0 := by
    rcases Nat.lt_or_ge j 1 with h | h
    · omega
    · rw [List.getElem?_eq_none (by simpa using h)] at hu
      cases hu
  subst this
  simp at hu
  subst hu
  exact h
theorem statesB_one (x : Int) : statesB [x] = (decide (0 ≤ x) && decide (x ≤ 31)) := by
  simp [statesB, allB, stAt, List.range_succ]

set_option maxHeartbeats 4000000 in
set_option maxRecDepth 100000 in
theorem memories_any (v : Value) (l : List (Int × List Int)) (w : World) (h : ListAt w w.heap.size 2 (memR w w.heap.size) v l) :
    Calls Tryd.prog 54 #[v] w fun e w' => e = .returned (.bool (memsB l)) ∧ Below w.heap.size w w' := by
  obtain ⟨A, c, rfl, hlc, hcm⟩ := h.form
  unfold maxLen at hcm
  have HL := Lib.hid h
  clear h
  go_enter Tryd.func54, Tryd.ntmps54
  go_wp2
  go_loopw [7] (fun i wr => ∃ k : Nat, k ≤ l.length ∧ i = .int .i64 k ∧ (∀ j, j < k → memAt l j = true) ∧ Below w.heap.size w wr) (fun i _ => l.length - (intOf i).toNat)
  case atStart => exact ⟨0, by omega, rfl, (fun j hj => by omega), Below.refl _ _⟩
  case round =>
    obtain ⟨k, hk, rfl, hall, hB⟩ := hrel
    have HA := Lib.hid hall
    have HB := Lib.hid hB
    have hsz := hB.size
    clear hall
    by_cases hlt : k < l.length
    · obtain ⟨b, off, rfl, hb, hc⟩ := mems_at HL.out k hlt
      obtain ⟨sv, c1, c2, hsv⟩ := hc k hlt
      have hbw : b < wr.heap.size := by omega
      have c1 := (hB.cell (p := ⟨b, off + k * 2, none⟩) hb).trans c1
      have c2 := (hB.cell (p := ⟨b, off + k * 2 + 1, none⟩) hb).trans c2
      have HV := Lib.hid hsv
      obtain ⟨A2, k2, rfl, _, _⟩ := hsv.form
      have HS : Hid (memAt l k = (statesB [(l.getD k (0, [])).1] && statesB (l.getD k (0, [])).2 && (decide (k = 0) || decide ((l.getD (k - 1) (0, [])).1 < (l.getD k (0, [])).1)))) := Lib.hid (by rw [statesB_one]; rfl)
      have fin : Hid (memAt l k = true → ∀ j, j < k + 1 → memAt l j = true) := Lib.hid (fun hb j hj => by
        rcases Nat.lt_or_ge j k with h | h
        · exact HA.out j h
        · obtain rfl : j = k := by omega
          exact hb)
      have bad : Hid (memAt l k = false → memsB l = false) := Lib.hid (fun h => by rw [memsB, allB_false hlt h])
      clear hsv
      cases k with
      | zero =>
        rw [Nat.zero_mul, Nat.add_zero] at c1 c2
        clear hc hB
        generalize (l.getD 0 (0, [])).1 = x at *
        generalize (l.getD 0 (0, [])).2 = sl at *
        cases h1 : statesB [x] <;> cases h2 : statesB sl
        all_goals
          go_wp2
          refine wp_region_head 3 (by kernel_rfl) (by kernel_rfl) ?_
          simp only [List.take_succ_cons, List.take_zero, List.drop_succ_cons, List.drop_zero]
          go_wp2
          refine restQ_normal ?_
          have B2 := Lib.hid (show Below w.heap.size w (((wr.alloc (.cells #[.int .i64 x, .slice A2 sl.length k2] 40)).alloc (.cells #[.int .i64 x] 3)).drew) from ((HB.out.alloc hsz _).alloc (by simp; omega) _).drew)
          have f1 : (((wr.alloc (.cells #[.int .i64 x, .slice A2 sl.length k2] 40)).alloc (.cells #[.int .i64 x] 3)).drew).cell? ⟨wr.heap.size, 0, none⟩ = some (.int .i64 x) := by simp
          have f2 : (((wr.alloc (.cells #[.int .i64 x, .slice A2 sl.length k2] 40)).alloc (.cells #[.int .i64 x] 3)).drew).cell? ⟨wr.heap.size, 1, none⟩ = some (.slice A2 sl.length k2) := by simp
          have f3 : (((wr.alloc (.cells #[.int .i64 x, .slice A2 sl.length k2] 40)).alloc (.cells #[.int .i64 x] 3)).drew).cell? ⟨wr.heap.size + 1, 0, none⟩ = some (.int .i64 x) := by simp
          generalize ((wr.alloc (.cells #[.int .i64 x, .slice A2 sl.length k2] 40)).alloc (.cells #[.int .i64 x] 3)).drew = W2 at *
          repeat (first | go_big_quiet_step ((first | (go_at_call_of 52 (Value.slice A2 sl.length k2); exact quiet_left (states_in HV.out (below_drewN B2.out _))) | (go_at_call 52; exact quiet_left (states_one (x := x) f3)))) | quiet_step ((first | (go_at_call_of 52 (Value.slice A2 sl.length k2); exact quiet_left (states_in HV.out (below_drewN B2.out _))) | (go_at_call 52; exact quiet_left (states_one (x := x) f3)))))
          refine wpQuiet_nil ?_
          intro _ hw'
          obtain ⟨nq, hw''⟩ := hw'
          subst hw''
          go_wp2
          first
            | (go_roundw
               case rel => exact ⟨1, by omega, rfl, fin.out (by rw [HS.out, h1, h2]; simp), below_drewN B2.out _⟩
               case measure => simp [intOf]; omega)
            | (go_ret
               rw [bad.out (by rw [HS.out, h1, h2]; simp)]
               exact ⟨rfl, below_drewN B2.out _⟩)
      | succ k =>
        obtain ⟨pv, d0, _, _⟩ := hc k (by omega)
        have d1 := (hB.cell (p := ⟨b, off + k * 2, none⟩) hb).trans d0
        rw [Nat.add_sub_cancel] at HS
        clear hc hB
        generalize (l.getD (k + 1) (0, [])).1 = x at *
        generalize (l.getD (k + 1) (0, [])).2 = sl at *
        generalize (l.getD k (0, [])).1 = y at *
        cases h1 : statesB [x] <;> cases h2 : statesB sl <;> cases h3 : decide (x ≤ y)
        all_goals
          have h4 : decide (y < x) = !decide (x ≤ y) := by
            rw [Bool.eq_iff_iff]
            simp
          rw [h3] at h4
          have H4 := Lib.hid h4
          clear h4
          go_wp2
          refine wp_region_head 3 (by kernel_rfl) (by kernel_rfl) ?_
          simp only [List.take_succ_cons, List.take_zero, List.drop_succ_cons, List.drop_zero]
          go_wp2
          refine restQ_normal ?_
          have B2 := Lib.hid (show Below w.heap.size w (((wr.alloc (.cells #[.int .i64 x, .slice A2 sl.length k2] 40)).alloc (.cells #[.int .i64 x] 3)).drew) from ((HB.out.alloc hsz _).alloc (by simp; omega) _).drew)
          have f1 : (((wr.alloc (.cells #[.int .i64 x, .slice A2 sl.length k2] 40)).alloc (.cells #[.int .i64 x] 3)).drew).cell? ⟨wr.heap.size, 0, none⟩ = some (.int .i64 x) := by simp
          have f2 : (((wr.alloc (.cells #[.int .i64 x, .slice A2 sl.length k2] 40)).alloc (.cells #[.int .i64 x] 3)).drew).cell? ⟨wr.heap.size, 1, none⟩ = some (.slice A2 sl.length k2) := by simp
          have f3 : (((wr.alloc (.cells #[.int .i64 x, .slice A2 sl.length k2] 40)).alloc (.cells #[.int .i64 x] 3)).drew).cell? ⟨wr.heap.size + 1, 0, none⟩ = some (.int .i64 x) := by simp
          have f4 : (((wr.alloc (.cells #[.int .i64 x, .slice A2 sl.length k2] 40)).alloc (.cells #[.int .i64 x] 3)).drew).cell? ⟨b, off + k * 2, none⟩ = some (.int .i64 y) := (B2.out.cell (p := ⟨b, off + k * 2, none⟩) hb).trans d0
          generalize ((wr.alloc (.cells #[.int .i64 x, .slice A2 sl.length k2] 40)).alloc (.cells #[.int .i64 x] 3)).drew = W2 at *
          have q1 : IntKind.i64.wrap (k : Int) = (k : Int) := IntWalk.i64_in _ (by omega)
          have q2 : (0 : Int) ≤ (k : Int) := by omega
          have q3 : (k : Int) < (l.length : Int) := by omega
          have q4 : (k : Int).toNat = k := by omega
          repeat (first | go_big_quiet_step ((first | (go_at_call_of 52 (Value.slice A2 sl.length k2); exact quiet_left (states_in HV.out (below_drewN B2.out _))) | (go_at_call 52; exact quiet_left (states_one (x := x) f3)))) | quiet_step ((first | (go_at_call_of 52 (Value.slice A2 sl.length k2); exact quiet_left (states_in HV.out (below_drewN B2.out _))) | (go_at_call 52; exact quiet_left (states_one (x := x) f3)))))
          refine wpQuiet_nil ?_
          intro _ hw'
          obtain ⟨nq, hw''⟩ := hw'
          subst hw''
          clear q1 q2 q3 q4
          go_wp2
          first
            | (go_roundw
               case rel => exact ⟨k + 1 + 1, by omega, by go_num, fin.out (by rw [HS.out, h1, h2, H4.out]; simp), below_drewN B2.out _⟩
               case measure => simp [intOf]; omega)
            | (go_ret
               rw [bad.out (by rw [HS.out, h1, h2, H4.out]; simp)]
               exact ⟨rfl, below_drewN B2.out _⟩)
    · obtain rfl : k = l.length := by omega
      have e : Hid (memsB l = true) := Lib.hid (by rw [memsB, allB_true HA.out])
      clear hB
      go_wp2
      go_ret
      rw [e.out]
      exact ⟨rfl, HB.out⟩
end Go.Proofs.YtbnanjcghhfcpaaDoor
