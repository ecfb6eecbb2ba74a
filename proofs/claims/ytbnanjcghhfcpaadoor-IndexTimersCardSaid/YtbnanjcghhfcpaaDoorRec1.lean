/- record.clock, states, vars. -/
import Derived.Test.YtbnanjcghhfcpaaDoorRecLaw
import Derived.Test.YtbnanjcghhfcpaaDoorOpen
namespace Go.Proofs.YtbnanjcghhfcpaaDoor
open Go.RowKit

theorem rclk_any (n : Int) (w : World) : Calls Tryd.prog 51 #[.int .i64 n] w fun e w' => e = .returned (.bool (clkB n)) ∧ w = w' := by
  by_cases h : 0 ≤ n
  all_goals
    go_enter Tryd.func51, Tryd.ntmps51
    go_wp2
    go_ret
    exact ⟨by simp [clkB, h] <;> omega, rfl⟩

/-- The cell of a number of a list. -/
theorem ints_at {w : World} {B n : Nat} {A : Option Addr} {l : List Int} (h : Reads w B 1 A n (l.map (Value.int .i64))) (hn : l.length = n) (k : Nat) (hk : k < n) :
    ∃ b off, A = some ⟨b, off, none⟩ ∧ b < B ∧ ∀ j, j < n → w.cell? ⟨b, off + j, none⟩ = some (.int .i64 (l.getD j 0)) := by
  obtain ⟨b, off, e, hb, hc⟩ := h.2 (by omega)
  refine ⟨b, off, e, hb, fun j hj => hc j _ ?_⟩
  rw [List.getElem?_map, List.getElem?_eq_getElem (by omega), getD_get l j 0 (by omega)]
  rfl

set_option maxHeartbeats 1000000 in
theorem states_any (v : Value) (l : List Int) (B : Nat) (w : World) (h : ListAt w B 1 intR v l) :
    Calls Tryd.prog 52 #[v] w fun e w' => e = .returned (.bool (statesB l)) ∧ w = w' := by
  obtain ⟨A, c, rfl, hlc, hcm, hr⟩ := h.one
  unfold maxLen at hcm
  have HR := Lib.hid hr
  clear h hr
  go_enter Tryd.func52, Tryd.ntmps52
  go_wp2
  go_loop [7] (fun i => ∃ k : Nat, k ≤ l.length ∧ i = .int .i64 k ∧ ∀ j, j < k → stAt l j = true) (fun i => l.length - (intOf i).toNat)
  case atStart => exact ⟨0, by omega, rfl, fun j hj => by omega⟩
  case round =>
    obtain ⟨k, hk, rfl, hall⟩ := hrel
    have HA := Lib.hid hall
    clear hall
    by_cases hlt : k < l.length
    · obtain ⟨b, off, rfl, _, hc⟩ := ints_at HR.out rfl k hlt
      have hck := hc k hlt
      have HS : Hid (stAt l k = (decide (0 ≤ l.getD k 0) && decide (l.getD k 0 ≤ 31) && (decide (k = 0) || decide (l.getD (k - 1) 0 < l.getD k 0)))) := Lib.hid rfl
      have fin : Hid (stAt l k = true → ∀ j, j < k + 1 → stAt l j = true) := Lib.hid (fun hb j hj => by
        rcases Nat.lt_or_ge j k with h | h
        · exact HA.out j h
        · obtain rfl : j = k := by omega
          exact hb)
      have bad : Hid (stAt l k = false → statesB l = false) := Lib.hid (fun h => by rw [statesB, allB_false hlt h]; rfl)
      cases k with
      | zero =>
        rw [Nat.add_zero] at hck
        clear hc
        generalize l.getD 0 0 = x at *
        by_cases h1 : 0 ≤ x
        · by_cases h2 : x ≤ 31
          · have kn := Lib.hid (fin.out (by rw [HS.out]; simp [h1, h2]))
            go_wp2
            go_round
            case rel => exact ⟨1, by omega, rfl, kn.out⟩
            case measure => simp [intOf]; omega
          · have kn := Lib.hid (bad.out (by rw [HS.out]; simp [h2]))
            go_wp2
            go_ret
            rw [kn.out]
            exact ⟨rfl, rfl⟩
        · have kn := Lib.hid (bad.out (by rw [HS.out]; simp [h1]))
          go_wp2
          go_ret
          rw [kn.out]
          exact ⟨rfl, rfl⟩
      | succ k =>
        have hcp := hc k (by omega)
        rw [Nat.add_sub_cancel] at HS
        clear hc
        generalize l.getD (k + 1) 0 = x at *
        generalize l.getD k 0 = y at *
        by_cases h1 : 0 ≤ x
        · by_cases h2 : x ≤ 31
          · by_cases h3 : y < x
            · have kn := Lib.hid (fin.out (by rw [HS.out]; simp [h1, h2, h3]))
              go_wp2
              go_round
              case rel => exact ⟨k + 1 + 1, by omega, by go_num, kn.out⟩
              case measure => simp [intOf]; omega
            · have kn := Lib.hid (bad.out (by rw [HS.out]; simp [h3]))
              go_wp2
              go_ret
              rw [kn.out]
              exact ⟨rfl, rfl⟩
          · have kn := Lib.hid (bad.out (by rw [HS.out]; simp [h2]))
            go_wp2
            go_ret
            rw [kn.out]
            exact ⟨rfl, rfl⟩
        · have kn := Lib.hid (bad.out (by rw [HS.out]; simp [h1]))
          go_wp2
          go_ret
          rw [kn.out]
          exact ⟨rfl, rfl⟩
    · obtain rfl : k = l.length := by omega
      have e : Hid (statesB l = decide (0 < l.length)) := Lib.hid (by rw [statesB, allB_true HA.out]; rfl)
      go_wp2
      go_ret
      rw [e.out]
      refine ⟨?_, rfl⟩
      first | rfl | (congr 2; simp; omega)

set_option maxHeartbeats 1000000 in
theorem vars_any (v : Value) (l : List Int) (B : Nat) (w : World) (h : ListAt w B 1 intR v l) :
    Calls Tryd.prog 53 #[v] w fun e w' => e = .returned (.bool (varsB l)) ∧ w = w' := by
  obtain ⟨A, c, rfl, hlc, hcm, hr⟩ := h.one
  unfold maxLen at hcm
  have HR := Lib.hid hr
  clear h hr
  go_enter Tryd.func53, Tryd.ntmps53
  go_wp2
  go_loop [7] (fun i => ∃ k : Nat, k ≤ l.length ∧ i = .int .i64 k ∧ ∀ j, j < k → varAt l j = true) (fun i => l.length - (intOf i).toNat)
  case atStart => exact ⟨0, by omega, rfl, fun j hj => by omega⟩
  case round =>
    obtain ⟨k, hk, rfl, hall⟩ := hrel
    have HA := Lib.hid hall
    clear hall
    by_cases hlt : k < l.length
    · obtain ⟨b, off, rfl, _, hc⟩ := ints_at HR.out rfl k hlt
      have hck := hc k hlt
      have HS : Hid (varAt l k = (decide (-2147483647 ≤ l.getD k 0) && decide (l.getD k 0 ≤ 2147483647))) := Lib.hid rfl
      clear hc
      have bad : Hid (varAt l k = false → varsB l = false) := Lib.hid (fun h => by rw [varsB, allB_false hlt h]; rfl)
      have fin : Hid (varAt l k = true → ∀ j, j < k + 1 → varAt l j = true) := Lib.hid (fun hb j hj => by
        rcases Nat.lt_or_ge j k with h | h
        · exact HA.out j h
        · obtain rfl : j = k := by omega
          exact hb)
      generalize l.getD k 0 = x at *
      by_cases h1 : -2147483647 ≤ x
      · by_cases h2 : x ≤ 2147483647
        · have kn := Lib.hid (fin.out (by rw [HS.out]; simp [h1, h2]))
          go_wp2
          go_round
          case rel => exact ⟨k + 1, by omega, by go_num, kn.out⟩
          case measure => simp [intOf]; omega
        · have kn := Lib.hid (bad.out (by rw [HS.out]; simp [h2]))
          go_wp2
          go_ret
          rw [kn.out]
          exact ⟨rfl, rfl⟩
      · have kn := Lib.hid (bad.out (by rw [HS.out]; simp [h1]))
        go_wp2
        go_ret
        rw [kn.out]
        exact ⟨rfl, rfl⟩
    · obtain rfl : k = l.length := by omega
      have e : Hid (varsB l = decide (l.length ≤ 8)) := Lib.hid (by rw [varsB, allB_true HA.out]; rfl)
      go_wp2
      go_ret
      refine ⟨?_, rfl⟩
      rw [e.out]
      first | rfl | (congr 2; simp; omega)
end Go.Proofs.YtbnanjcghhfcpaaDoor
