/- chart.sorted: the keys of a map, in order. -/
import Derived.Test.YtaonccobohiiiaaDoorVU
import Derived.Test.YtaonccobohiiiaaDoorProg
import Derived.Maps.RangeWalk
import Derived.Maps.AppendAt
import Derived.WalkKit
import Derived.LoopN
import Derived.Test.YtaonccobohiiiaaDoorTU0
import Derived.Shelf.Abstract
import Derived.Sort.OwnSorted
namespace Go.Proofs.YtaonccobohiiiaaDoor
open Go.RowKit Go.Maps Go.Sort Go.Shelf Go.Lib

set_option maxRecDepth 100000 in
set_option maxHeartbeats 4000000 in
theorem keys_sorted (hsort : ∀ (l : List (List UInt8)), l.length < 4611686018427387904 → Turns Tryd.prog 41 [] 9 1 (l.map fun x => [encStr x]) ((l.mergeSort leB).map fun x => [encStr x])) : KeysIn Tryd.prog 27 9 := by
  refine ⟨enters_of Tryd.func27 (by kernel_rfl) rfl, fun w g ents clock ks hg hD hE hnd hl hb => ?_⟩
  obtain ⟨D, hown, hsz, hh⟩ := owns_keys (P := Tryd.prog) (k := 9) Tryd.underlying9 hg hD hE hnd hl hb
  have K : Keyed Tryd.prog 9 := string_keyed Tryd.underlying9
  have hinfo : (Tryd.prog.info? 9).map (fun i => (i.zero, i.size, i.bytes)) = some (some (.string ⟨#[]⟩), 1, 16) := by kernel_rfl
  obtain ⟨i0, hi, hz0, hz1, hz2⟩ := info_parts hinfo
  have hgl : g < w.heap.size := (Array.getElem?_eq_some_iff.1 hg).1
  go_enter Tryd.func27, Tryd.ntmps27
  go_wp2_with (first
    | (at_range; refine wpList_range_own _ rfl _ 58 rfl 9 3 K Tryd.underlying58 anyR g ks.length D rfl hown ?_; intro w0 hrg0 hg0 hs0)
    | go_in)
  go_frame
  go_loopw [3] (fun v wr => ∃ (left : Lit → Bool) (cnt : Nat) (ss : List (List UInt8)), wr.ranges Tryd.prog 9 anyR g w.heap.size ks.length D left cnt ∧ ss.length + cnt ≤ ks.length ∧
      wr.ownsRow w.heap.size 9 1 v ss.length (ss.map encStr) ∧ Collected D left ss ∧ Below w.heap.size w wr)
    (fun _ wr => wr.rangeLeft g w.heap.size)
  case atStart =>
    exact ⟨_, _, [], hrg0, by simp [hsz], ⟨rfl, .inl ⟨rfl, rfl⟩⟩, Collected.start D, (Below.refl _ _).grown hg0 (Nat.le_refl _) (fun j hj => by cases hj)⟩
  case round =>
    obtain ⟨left, cnt, ss, hrg, hcs, hrow, hC, hnx⟩ := hrel
    have hflat : ∀ l : List (List UInt8), (l.map fun x => [encStr x]).flatten = l.map encStr := fun l => by induction l with
      | nil => rfl
      | cons a l ih => rw [List.map_cons, List.flatten_cons, ih]; rfl
    have hss : ss.length ≤ 1000000 := by omega
    have hT := hsort ss (by omega)
    go_wp2_with (first
      | (at_next; refine wpList_next_ranges _ rfl _ rfl 9 K anyR encStr id (fun key kl hk => by obtain ⟨x, hx, _⟩ := Maps.keyOf_str Tryd.underlying9 hk; exact ⟨x, hx⟩) (fun v y hv => ⟨v, rfl⟩) g w.heap.size ks.length _ _ _ rfl hrg ?_ ?_)
      | go_in)
    · -- nothing is left
      intro hc0 hl0
      have hperm := keys_end hC hl0 hnd hh
      have hc := hT.calls _ w.heap.size _ (by rw [List.length_map, hflat]; exact hrow)
      go_wp2_with (first
        | (go_at_call 41; refine hc.mono ?_; rintro e w' ⟨rfl, hg3, ho3⟩)
        | go_in)
      go_ret
      refine ⟨_, rfl, hnx.grown hg3 hnx.size (fun j hj => (hrow.lt j hj).1), ?_⟩
      rw [List.length_map, hflat, mergeSort_of_perm hperm, hperm.length_eq] at ho3
      exact ho3
    · -- an entry has come
      intro x c kl yd yp w2 cnt2 hkey hlk hv hat hrg2 hlt hg2 hs2 hen
      obtain ⟨x', ex, rfl, _⟩ := Maps.keyOf_str Tryd.underlying9 hkey
      obtain rfl : x = x' := encStr_inj ex
      have hrow2 := hrow.kept hg2 (Or.inr (row_ne_iter hrow hrg).symm)
      try clear hs2
      go_wp2_with (first
        | (at_builtin; refine wpList_append_own_at _ rfl _ _ 44 rfl w.heap.size 9 i0 (.string ⟨#[]⟩) 1 16 Tryd.underlying44 hi hz0 hz1 hz2 rfl (by decide) _ _ _ rfl (hrow2.alloc _) ⟨w2.heap.size, 0, none⟩ 1 1 [encStr x] rfl rfl (cell_one_new _ _ _) (by simp [Value.oneCell', encStr]) (by unfold maxLen; omega) (by omega) (by have := hnx.size; have := hg2.size; simp; omega) ?_; intro v' w3 hown' hg3 hnil3 hblk3; go_frame)
        | go_in)
      have hrg3 := (hrg2.alloc _).kept hg3 (row_ne_low hrow2 hgl) (row_ne_iter hrow2 hrg2)
      go_roundw
      case rel =>
        refine ⟨_, cnt2, ss ++ [x], hrg3, by simp; omega, by simpa using hown', hC.step hlk hat, ?_⟩
        exact ((hnx.grown hg2 hnx.size (fun j hj => by cases hj; exact Nat.le_refl _)).alloc (by have := hnx.size; have := hg2.size; omega) _).grown hg3 (by have := hnx.size; have := hg2.size; simp; omega) (fun j hj => (hrow2.lt j hj).1)
      case measure => rw [hrg3.left_eq, hrg.left_eq]; exact hlt
end Go.Proofs.YtaonccobohiiiaaDoor
