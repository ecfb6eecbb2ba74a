/- Sorting and compacting strings. -/
import Derived.Test.YtaonccobohiiiaaDoorVK
import Derived.Test.YtaonccobohiiiaaDoorTU0
import Derived.Test.YtaonccobohiiiaaDoorWS
import Derived.Test.YtaonccobohiiiaaDoorCO
import Derived.Test.YtaonccobohiiiaaDoorErr
import Derived.LoopN
import Derived.Shelf.Abstract
namespace Go.Proofs.YtaonccobohiiiaaDoor
open Go.RowKit Go.Sort Go.Shelf Go.Lib

set_option maxHeartbeats 4000000 in
set_option maxRecDepth 100000 in
theorem sortS_none (p : Option Addr) (cap : Nat) (w : World) : Calls Tryd.prog 41 #[.slice p 0 cap] w fun ex w' => ex = .returned (.tuple #[]) ∧ w' = w := by
  go_enter Tryd.func41, Tryd.ntmps41
  go_wp2_with (first | go_in)
  refine wp_loop_rounds 1 ?_
  simp only [Code.rounds]
  go_wp2_with (first | go_in)
  refine wp_loop_rounds 1 ?_
  simp only [Code.rounds]
  go_wp2_with (first | go_in)
  go_end0
  exact ⟨rfl, rfl⟩

def strC (s : List UInt8) : List Value := [encStr s]
theorem flat_one {α : Type} (f : α → Value) : ∀ l : List α, (l.map fun s => [f s]).flatten = l.map f
  | [] => rfl
  | x :: l => by simp [flat_one f l]
theorem holds_map {w : World} {g : Nat} {l : List (List UInt8)} (h : Holds id w g 0 (l.map encStr).toArray) : Holds encStr w g 0 l.toArray := fun j hj => by
  have hj' : j < l.length := by simpa using hj
  have := h j (by simpa using hj')
  rw [getElem!_pos _ j (by simpa using hj')] at this
  rw [getElem!_pos _ j hj]
  simpa using this
theorem Tryd.sortEnter : ∀ (args : Array Value) (w : World), (callFunc 41 args).run Tryd.prog w = .ok (.enter 41 args) w := enters_of Tryd.func41 (by kernel_rfl) rfl
/-- Strings in order. -/
def sortB (l : List (List UInt8)) : List (List UInt8) := l.mergeSort fun x y => decide (x ≤ y)
theorem sortS_turns (l : List (List UInt8)) (hl : l.length < 4611686018427387904) : Turns Tryd.prog 41 [] 9 1 (l.map strC) ((sortB l).map strC) := by
  by_cases h0 : l = []
  · subst h0
    rw [show sortB [] = [] by simp [sortB]]
    exact turns_none Tryd.sortEnter fun p cap w => sortS_none p cap w
  · refine turns_base (by rw [List.length_map]; exact List.length_pos_iff.2 h0) Tryd.sortEnter (by simp [sortB]) (fun x hx => ?_) (fun x hx => ?_) fun w g cap hH hg => ?_
    · obtain ⟨y, _, rfl⟩ := List.mem_map.1 hx; rfl
    · obtain ⟨y, _, rfl⟩ := List.mem_map.1 hx
      exact ⟨rfl, fun u hu => by rw [List.mem_singleton.1 hu]; rfl⟩
    · have hH : Holds id w g 0 (l.map encStr).toArray := by rw [← flat_one]; exact hH
      have := Any.slices_Sort_string Tryd.sortS g 0 cap l w (holds_map hH) hg hl
      rw [List.length_map]
      refine (show Calls Tryd.prog 41 #[.slice (some ⟨g, 0, none⟩) l.length cap] w _ from this).mono ?_
      rintro ex w' ⟨rfl, n, os, rfl⟩
      refine ⟨rfl, n, os, ?_⟩
      rw [putRow_id, show ((sortB l).map strC).flatten = (sortB l).map encStr from flat_one encStr _]
      simp [sortB]
end Go.Proofs.YtaonccobohiiiaaDoor
