/- Sorts of the library as calls that turn a row of the call's own. No program is named here. -/
import Derived.Test.YtaonccobohiiiaaDoorVC
import Derived.Shelf.Sort.Plain
import Derived.Shelf.Slices.CompactS
namespace Go.Proofs.YtaonccobohiiiaaDoor
open Go.RowKit Go.Sort Go.Shelf Go.Lib

theorem heap_put {w : World} {g n : Nat} {os : Array Obj} {cur : Array Value} {e : TypeId} {fr : Nat × Nat} (F : Array Value) (hb : w.heap[g]? = some (.cells cur e fr)) :
    (grow (putRow id (Sort.ahead w n) g 0 F) os).heap[g]? = some (.cells (putCells id 0 F cur) e fr) := by
  have hg : g < w.heap.size := (Array.getElem?_eq_some_iff.1 hb).1
  rw [heap_grow_old _ _ (by simpa [putRow, mapBlock, Sort.ahead] using hg)]
  simp [putRow, mapBlock, Sort.ahead, Array.getElem?_modify, hb, onCells]
theorem grownBy_put {w : World} {g n : Nat} {os : Array Obj} (F : Array Value) : w.grownBy (grow (putRow id (Sort.ahead w n) g 0 F) os) (some g) := by
  refine ⟨rfl, rfl, rfl, by simp [putRow, mapBlock, Sort.ahead], fun k hk hne => ?_⟩
  rw [heap_grow_old _ _ (by simpa [putRow, mapBlock, Sort.ahead] using hk)]
  have : g ≠ k := fun e => hne (by rw [e])
  simp [putRow, mapBlock, Sort.ahead, Array.getElem?_modify, this]
theorem take_put (cur F : Array Value) (h : F.size ≤ cur.size) : (putCells id 0 F cur).toList.take F.size = F.toList := by
  apply List.ext_getElem?
  intro j
  by_cases hj : j < F.size
  · rw [List.getElem?_take_of_lt hj, Array.getElem?_toList]
    simp [putCells, hj, show j < cur.size by omega]
  · rw [List.getElem?_take_eq_none (by omega), List.getElem?_eq_none (by simp; omega)]

/-- Any call that lays a row's cells anew. -/
theorem turns_base {P : Program} {f : FuncId} {rest : List Value} {e : TypeId} {sz : Nat} {ls ls' : List (List Value)} (hne : 0 < ls.length) (henter : ∀ (args : Array Value) (w : World), (callFunc f args).run P w = .ok (.enter f args) w)
    (hl : ls'.length = ls.length) (hls : ∀ l ∈ ls, l.length = sz) (hel : ∀ l ∈ ls', l.length = sz ∧ ∀ u ∈ l, u.oneCell' = true)
    (h : ∀ (w : World) (g cap : Nat), Holds id w g 0 ls.flatten.toArray → g < w.heap.size → Calls P f (.slice (some ⟨g, 0, none⟩) ls.length cap :: rest).toArray w fun ex w' => ex = .returned (.tuple #[]) ∧ ∃ n os, w' = grow (putRow id (Sort.ahead w n) g 0 ls'.flatten.toArray) os) :
    Turns P f rest e sz ls ls' := by
  refine ⟨henter, hl, hel, fun w base v ho => ?_⟩
  have hf := flatten_len ls hls
  have hf' := flatten_len ls' fun l hl => (hel l hl).1
  rcases ho.2 with ⟨_, h0⟩ | ⟨g, cap, cur, rfl, hbase, hb, h1, h2, h3, h4⟩
  · omega
  have hsz : ls.length * sz ≤ cur.size := by rw [h3]; exact Nat.mul_le_mul_right _ h1
  have hg : g < w.heap.size := (Array.getElem?_eq_some_iff.1 hb).1
  refine (h w g cap (fun j hj => ⟨?_, by simp [World.frozen?, hb]⟩) hg).mono ?_
  · have hj' : j < ls.flatten.length := by simpa using hj
    have e1 : (cur.toList.take (ls.length * sz))[j]? = ls.flatten[j]? := by rw [h4]
    rw [List.getElem?_take_of_lt (by omega)] at e1
    simp only [World.cell?, hb, Nat.zero_add]
    simp only [Option.isSome_none, Bool.false_eq_true, if_false]
    rw [← Array.getElem?_toList, e1, getElem!_pos _ j hj, List.getElem?_eq_getElem hj']
    rfl
  · rintro ex w' ⟨rfl, n, os, rfl⟩
    refine ⟨rfl, grownBy_put _, by rw [hf', hl], .inr ⟨g, cap, _, rfl, hbase, heap_put _ hb, h1, h2, by simp [putCells, h3], ?_⟩⟩
    have := take_put cur ls'.flatten.toArray (by simp [hf', hl]; exact hsz)
    rw [show ls'.flatten.toArray.size = ls.length * sz by simp [hf', hl]] at this
    exact this
/-- No element: a row that is nil or empty. -/
theorem turns_none {P : Program} {f : FuncId} {rest : List Value} {e : TypeId} {sz : Nat} (henter : ∀ (args : Array Value) (w : World), (callFunc f args).run P w = .ok (.enter f args) w)
    (h : ∀ (p : Option Addr) (cap : Nat) (w : World), Calls P f (.slice p 0 cap :: rest).toArray w fun ex w' => ex = .returned (.tuple #[]) ∧ w' = w) : Turns P f rest e sz [] [] := by
  refine ⟨henter, rfl, fun l hl => by simp at hl, fun w base v ho => ?_⟩
  have key : ∃ p cap, v = .slice p 0 cap := by
    rcases ho.2 with ⟨rfl, _⟩ | ⟨g, cap, cur, rfl, _⟩
    · exact ⟨_, _, rfl⟩
    · exact ⟨_, _, rfl⟩
  obtain ⟨p, cap, rfl⟩ := key
  refine (h p cap w).mono ?_
  rintro ex w' ⟨rfl, rfl⟩
  exact ⟨rfl, ⟨rfl, rfl, rfl, Nat.le_refl _, fun _ _ _ => rfl⟩, ho⟩

section
variable {α : Type} [Inhabited α]
theorem putRow_id (enc : α → Value) (w : World) (g : Nat) (d : Array α) : putRow enc w g 0 d = putRow id w g 0 (d.map enc) := by
  unfold putRow
  refine mapBlock_congr _ _ _ _ fun c _ _ _ => ?_
  apply Array.ext_getElem?
  intro k
  simp only [putCells, Array.getElem?_mapIdx, Array.size_map]
  cases c[k]? with
  | none => rfl
  | some y =>
    simp only [Option.map_some, Nat.sub_zero, Nat.zero_add]
    by_cases hk : 0 ≤ k ∧ k < d.size
    · rw [if_pos hk, if_pos hk]; simp [hk.2]
    · rw [if_neg hk, if_neg hk]
end
end Go.Proofs.YtaonccobohiiiaaDoor
