/- index.join and the keys that are made of it. -/
import Derived.Test.YtbnanjcghhfcpaaDoorNum
namespace Go.Proofs.YtbnanjcghhfcpaaDoor
open Go.RowKit

/-- A slice's parts in memory: two cells each. -/
def partsAt (w : World) (b off : Nat) (ps : List (Nat × Nat)) : Prop :=
  ∀ k (h : k < ps.length), w.cell? ⟨b, off + k * 2, none⟩ = some (.int .i64 (ps[k].1 : Nat)) ∧ w.cell? ⟨b, off + k * 2 + 1, none⟩ = some (.int .i64 (ps[k].2 : Nat))

theorem bigB_drop (wd m : Nat) (h : wd ≤ 8) : (bigB 8 m).drop (8 - wd) = bigB wd m := by
  apply List.ext_getElem
  · simp [bigB_len]; omega
  · intro i h1 h2
    rw [bigB_len] at h2
    simp only [bigB, List.getElem_drop, List.getElem_map, List.getElem_range]
    rw [show 8 - 1 - (8 - wd + i) = wd - 1 - i by omega]

def joinB (s : List UInt8) (ps : List (Nat × Nat)) : List UInt8 := s ++ ps.flatMap fun p => bigB p.2 p.1

theorem joinB_snoc (s : List UInt8) (ps : List (Nat × Nat)) (k : Nat) (h : k < ps.length) : joinB s (ps.take (k + 1)) = joinB s (ps.take k) ++ bigB ps[k].2 ps[k].1 := by
  rw [joinB, joinB, List.take_succ_eq_append_getElem h, List.flatMap_append, ← List.append_assoc]
  congr 1
  simp only [List.flatMap_cons, List.flatMap_nil, List.append_nil]
theorem joinB_len (s : List UInt8) (ps : List (Nat × Nat)) (k : Nat) (hs : s.length ≤ 1000) (hk : ps.length ≤ k) (h : ∀ p ∈ ps, p.2 ≤ 8) : (joinB s ps).length ≤ 1000 + 8 * k := by
  have : (ps.flatMap fun p => bigB p.2 p.1).length ≤ 8 * ps.length := by
    clear hk
    induction ps with
    | nil => simp
    | cons p ps ih =>
      have h1 := h p (by simp)
      have h2 := ih (fun q hq => h q (by simp [hq]))
      simp only [List.flatMap_cons, List.length_append, bigB_len, List.length_cons]
      omega
  simp only [joinB, List.length_append]
  omega

set_option maxRecDepth 100000 in
set_option maxHeartbeats 400000 in
theorem join_any (s : List UInt8) (b off c : Nat) (ps : List (Nat × Nat)) (w : World) (hs : s.length ≤ 1000) (hb : b < w.heap.size) (hp : partsAt w b off ps) (hlen : ps.length ≤ 8)
    (hn : ∀ p ∈ ps, p.1 < 9223372036854775808 ∧ p.2 ≤ 8) :
    Calls Tryd.prog 48 #[.string ⟨s.toArray⟩, .slice (some ⟨b, off, none⟩) ps.length c] w fun e w' => e = .returned (.string ⟨(joinB s ps).toArray⟩) ∧ Below w.heap.size w w' := by
  go_enter Tryd.func48, Tryd.ntmps48
  go_wp2
  go_loopw [0, 9] (fun s' i wr => ∃ k : Nat, k ≤ ps.length ∧ i = .int .i64 k ∧ s' = .string ⟨(joinB s (ps.take k)).toArray⟩ ∧ Below w.heap.size w wr) (fun _ i _ => ps.length - (intOf i).toNat)
  case atStart => exact ⟨0, by omega, rfl, by simp [joinB], Below.refl _ _⟩
  case round =>
    obtain ⟨k, hk, rfl, rfl, hB⟩ := hrel
    by_cases hlt : k < ps.length
    · obtain ⟨c1, c2⟩ := hp k hlt
      rw [← hB.cell (p := ⟨b, off + k * 2, none⟩) hb] at c1
      rw [← hB.cell (p := ⟨b, off + k * 2 + 1, none⟩) hb] at c2
      obtain ⟨h1, h2⟩ := hn ps[k] (List.getElem_mem _)
      have HB := Lib.hid hB
      generalize hj : joinB s (List.take k ps) = sj at *
      have HJ := Lib.hid hj
      generalize he : ps[k] = pk at *
      have HE := Lib.hid he
      obtain ⟨m, wd⟩ := pk
      clear hB hp hj he
      simp only at c1 c2 h1 h2
      go_wp2
      have e1 : IntKind.u64.wrap (m : Int) = (m : Int) := IntWalk.u64_in _ (by omega)
      have e2 : IntKind.i64.wrap (8 - (wd : Int)) = 8 - (wd : Int) := IntWalk.i64_in _ (by omega)
      have e3 : (8 - (wd : Int)).toNat = 8 - wd := by omega
      have e4 : (0 : Int) ≤ 8 - (wd : Int) := by omega
      have e5 : ∀ W, (Instr.slice 9 (.string ⟨(bigB 8 m).toArray⟩) (some (.int .i64 (8 - (wd : Int)))) none none).run Tryd.prog W = .ok (.string ⟨(bigB wd m).toArray⟩) W := fun W => by
        rw [run_from Tryd.underlying9 _ _ e4 (by rw [bigB_len]; omega), e3, bigB_drop _ _ h2]
      have hj : sj.length ≤ 1064 := by rw [← HJ.out]; exact joinB_len s _ 8 hs (by simp; omega) (fun p hp => (hn p (List.mem_of_mem_take hp)).2)
      have e6 : ∀ W, (Op.stringOp .add ⟨sj.toArray⟩ ⟨(bigB wd m).toArray⟩).run Tryd.prog W = .ok (.string ⟨(sj ++ bigB wd m).toArray⟩) W := fun W => run_cat _ _ (by rw [bigB_len]; omega) W
      clear hn
      go_region_held3 (fun w' => w'.cell? ⟨wr.heap.size, 0, none⟩ = some (.int .i64 m) ∧ w'.cell? ⟨wr.heap.size, 1, none⟩ = some (.int .i64 wd)) (first | go_keep | exact ⟨(hb1.cell (p := ⟨wr.heap.size, 0, none⟩) (by simp)).trans (by simp), (hb1.cell (p := ⟨wr.heap.size, 1, none⟩) (by simp)).trans (by simp)⟩)
        (first | (go_at_call 65; refine (order_any m (by omega) _).mono ?_; rintro e w1 ⟨rfl, hb1⟩))
      clear e1 e2 e3 e4 e5 e6
      go_wp2
      go_roundw
      case rel =>
        refine ⟨k + 1, by omega, by go_num, ?_, ((HB.out.alloc HB.out.size _).drew).trans (hb1.mono ?_)⟩
        · rw [joinB_snoc s ps k hlt, HJ.out, HE.out]
        · have := HB.out.size
          simp
          omega
      case measure => simp [intOf]; omega
    · obtain rfl : k = ps.length := by omega
      go_wp2
      go_ret
      exact ⟨by simp, hB⟩

/-- index.TimerKey where there is a key. -/
def timerKey (a i p : Nat) : List UInt8 := joinB [116] [(a, 6), (i, 4), (p, 1)]
set_option maxRecDepth 100000 in
theorem timerKey_yes (a i p : Nat) (ha : a ≤ 1099511627776) (hi : 1 ≤ i) (hi' : i ≤ 2147483647) (hp : p < 8) (w : World) :
    Calls Tryd.prog 26 #[.int .i64 a, .int .i64 i, .int .i64 p] w fun e w' => e = .returned (.tuple #[.string ⟨(timerKey a i p).toArray⟩, .nilIface]) ∧ Below w.heap.size w w' := by
  have b1 : clockB a = true := by simp [clockB]; omega
  have b2 : numberB i = true := by simp [numberB]; omega
  go_enter Tryd.func26, Tryd.ntmps26
  go_wp2_with (first
    | (go_at_call 47; refine (clock_any _ _).mono ?_; rintro e w' ⟨rfl, rfl⟩)
    | (go_at_call 29; refine (number_any _ _).mono ?_; rintro e w' ⟨rfl, rfl⟩))
  refine (join_any [116] w.heap.size 0 3 [(a, 6), (i, 4), (p, 1)] _ (by decide) ?_ ?_ (by simp) ?_).mono ?_
  · simp
  · intro k hk
    match k, hk with
    | 0, _ => simp
    | 1, _ => simp
    | 2, _ => simp
  · intro q hq
    simp at hq
    rcases hq with rfl | rfl | rfl <;> simp <;> omega
  rintro e w1 ⟨rfl, hb⟩
  go_wp2
  go_ret2
  exact ⟨rfl, ((Below.refl _ _).alloc (Nat.le_refl _) _).trans (hb.mono (by simp))⟩

theorem timerKey_no (a i p : Int) (h : ¬ (0 ≤ a ∧ a ≤ 1099511627776 ∧ 1 ≤ i ∧ i ≤ 2147483647 ∧ 0 ≤ p ∧ p < 8)) (w : World) (t : TypeId) (v : Value) (hr : w.cell? ⟨1, 0, none⟩ = some (.iface t v)) :
    Calls Tryd.prog 26 #[.int .i64 a, .int .i64 i, .int .i64 p] w fun e w' => ∃ s, e = .returned (.tuple #[.string ⟨#[]⟩, .iface 82 (.pointer (some ⟨w.heap.size, 0, none⟩))]) ∧ w.alloc (.cells #[.string s, .int .i64 (-1), .iface t v] 84) = w' := by
  by_cases h1 : clockB a
  · by_cases h2 : numberB i
    · by_cases h3 : p < 0
      · go_enter Tryd.func26, Tryd.ntmps26
        go_wp2_with (first
          | (go_at_call 47; refine (clock_any _ _).mono ?_; rintro e w' ⟨rfl, rfl⟩)
          | (go_at_call 29; refine (number_any _ _).mono ?_; rintro e w' ⟨rfl, rfl⟩)
          | (go_at_call 21; refine (new_any _ _ _ _).mono ?_; rintro e w' ⟨rfl, rfl⟩))
        go_ret2
        exact ⟨_, rfl, rfl⟩
      · have h4 : 8 ≤ p := by simp [clockB, numberB] at h1 h2; omega
        go_enter Tryd.func26, Tryd.ntmps26
        go_wp2_with (first
          | (go_at_call 47; refine (clock_any _ _).mono ?_; rintro e w' ⟨rfl, rfl⟩)
          | (go_at_call 29; refine (number_any _ _).mono ?_; rintro e w' ⟨rfl, rfl⟩)
          | (go_at_call 21; refine (new_any _ _ _ _).mono ?_; rintro e w' ⟨rfl, rfl⟩))
        go_ret2
        exact ⟨_, rfl, rfl⟩
    · go_enter Tryd.func26, Tryd.ntmps26
      go_wp2_with (first
        | (go_at_call 47; refine (clock_any _ _).mono ?_; rintro e w' ⟨rfl, rfl⟩)
        | (go_at_call 29; refine (number_any _ _).mono ?_; rintro e w' ⟨rfl, rfl⟩)
        | (go_at_call 21; refine (new_any _ _ _ _).mono ?_; rintro e w' ⟨rfl, rfl⟩))
      go_ret2
      exact ⟨_, rfl, rfl⟩
  · go_enter Tryd.func26, Tryd.ntmps26
    go_wp2_with (first
      | (go_at_call 47; refine (clock_any _ _).mono ?_; rintro e w' ⟨rfl, rfl⟩)
      | (go_at_call 29; refine (number_any _ _).mono ?_; rintro e w' ⟨rfl, rfl⟩)
      | (go_at_call 21; refine (new_any _ _ _ _).mono ?_; rintro e w' ⟨rfl, rfl⟩))
    go_ret2
    exact ⟨_, rfl, rfl⟩
end Go.Proofs.YtbnanjcghhfcpaaDoor
