/- Sorts of the library as calls that turn a row of the call's own. No program is named here. -/
import Derived.Test.YthepkabfiooabaaDoorVC
import Derived.Shelf.SlSortCmp.NoneTotal
namespace Go.Proofs.YthepkabfiooabaaDoor
open Go.RowKit Go.Sort Go.Shelf Go.Lib

theorem heap_put {w : World} {g n : Nat} {os : Array Obj} {cur : Array Value} {e : TypeId} {fr : Nat × Nat} (F : Array Value) (hb : w.heap[g]? = some (.cells cur e fr)) :
    (grow (putRow id (Sort.ahead w n) g 0 F) os).heap[g]? = some (.cells (putCells id 0 F cur) e fr) := by
  have hg : g < w.heap.size := (Array.getElem?_eq_some_iff.1 hb).1
  rw [heap_grow_old _ _ (by simpa [putRow, mapBlock, Sort.ahead] using hg)]
  simp [putRow, mapBlock, Sort.ahead, Array.getElem?_modify, hb, onCells]
theorem grownBy_put {w : World} {g n : Nat} {os : Array Obj} (F : Array Value) : w.grownBy (grow (putRow id (Sort.ahead w n) g 0 F) os) (some g) := by
  refine ⟨rfl, rfl, rfl, by simp [putRow, mapBlock, Sort.ahead], fun k hk hne => ?_⟩
  rw [heap_grow_old _ _ (by simpa [putRow, mapBlock, Sort.ahead] using hk)]
  have : g ≠ k := fun e => hne (by rw [e])
  simp [putRow, mapBlock, Sort.ahead, Array.getElem?_modify, this]
theorem take_put (cur F : Array Value) (h : F.size ≤ cur.size) : (putCells id 0 F cur).toList.take F.size = F.toList := by
  apply List.ext_getElem?
  intro j
  by_cases hj : j < F.size
  · rw [List.getElem?_take_of_lt hj, Array.getElem?_toList]
    simp [putCells, hj, show j < cur.size by omega]
  · rw [List.getElem?_take_eq_none (by omega), List.getElem?_eq_none (by simp; omega)]

/-- Any call that lays a row's cells anew. -/
theorem turns_base {P : Program} {f : FuncId} {rest : List Value} {e : TypeId} {sz : Nat} {ls ls' : List (List Value)} (hne : 0 < ls.length) (henter : ∀ (args : Array Value) (w : World), (callFunc f args).run P w = .ok (.enter f args) w)
    (hl : ls'.length = ls.length) (hls : ∀ l ∈ ls, l.length = sz) (hel : ∀ l ∈ ls', l.length = sz ∧ ∀ u ∈ l, u.oneCell' = true)
    (h : ∀ (w : World) (g cap : Nat), Holds id w g 0 ls.flatten.toArray → g < w.heap.size → Calls P f (.slice (some ⟨g, 0, none⟩) ls.length cap :: rest).toArray w fun ex w' => ex = .returned (.tuple #[]) ∧ ∃ n os, w' = grow (putRow id (Sort.ahead w n) g 0 ls'.flatten.toArray) os) :
    Turns P f rest e sz ls ls' := by
  refine ⟨henter, hl, hel, fun w base v ho => ?_⟩
  have hf := flatten_len ls hls
  have hf' := flatten_len ls' fun l hl => (hel l hl).1
  rcases ho.2 with ⟨_, h0⟩ | ⟨g, cap, cur, rfl, hbase, hb, h1, h2, h3, h4⟩
  · omega
  have hsz : ls.length * sz ≤ cur.size := by rw [h3]; exact Nat.mul_le_mul_right _ h1
  have hg : g < w.heap.size := (Array.getElem?_eq_some_iff.1 hb).1
  refine (h w g cap (fun j hj => ⟨?_, by simp [World.frozen?, hb]⟩) hg).mono ?_
  · have hj' : j < ls.flatten.length := by simpa using hj
    have e1 : (cur.toList.take (ls.length * sz))[j]? = ls.flatten[j]? := by rw [h4]
    rw [List.getElem?_take_of_lt (by omega)] at e1
    simp only [World.cell?, hb, Nat.zero_add]
    simp only [Option.isSome_none, Bool.false_eq_true, if_false]
    rw [← Array.getElem?_toList, e1, getElem!_pos _ j hj, List.getElem?_eq_getElem hj']
    rfl
  · rintro ex w' ⟨rfl, n, os, rfl⟩
    refine ⟨rfl, grownBy_put _, by rw [hf', hl], .inr ⟨g, cap, _, rfl, hbase, heap_put _ hb, h1, h2, by simp [putCells, h3], ?_⟩⟩
    have := take_put cur ls'.flatten.toArray (by simp [hf', hl]; exact hsz)
    rw [show ls'.flatten.toArray.size = ls.length * sz by simp [hf', hl]] at this
    exact this
/-- No element: a row that is nil or empty. -/
theorem turns_none {P : Program} {f : FuncId} {rest : List Value} {e : TypeId} {sz : Nat} (henter : ∀ (args : Array Value) (w : World), (callFunc f args).run P w = .ok (.enter f args) w)
    (h : ∀ (p : Option Addr) (cap : Nat) (w : World), Calls P f (.slice p 0 cap :: rest).toArray w fun ex w' => ex = .returned (.tuple #[]) ∧ w' = w) : Turns P f rest e sz [] [] := by
  refine ⟨henter, rfl, fun l hl => by simp at hl, fun w base v ho => ?_⟩
  have key : ∃ p cap, v = .slice p 0 cap := by
    rcases ho.2 with ⟨rfl, _⟩ | ⟨g, cap, cur, rfl, _⟩
    · exact ⟨_, _, rfl⟩
    · exact ⟨_, _, rfl⟩
  obtain ⟨p, cap, rfl⟩ := key
  refine (h p cap w).mono ?_
  rintro ex w' ⟨rfl, rfl⟩
  exact ⟨rfl, ⟨rfl, rfl, rfl, Nat.le_refl _, fun _ _ _ => rfl⟩, ho⟩

section
variable {α : Type} [Inhabited α]
theorem flatK_list (enc : α → List Value) (k : Nat) (hk : ∀ x, (enc x).length = k) (d : List α) : flatK enc k d.toArray = (d.map enc).flatten.toArray := by
  have hz : ∀ l ∈ d.map enc, l.length = k := fun l hl => by
    obtain ⟨x, _, rfl⟩ := List.mem_map.1 hl
    exact hk x
  have hl := flatten_len (d.map enc) hz
  apply Array.ext'
  apply List.ext_getElem?
  intro p
  by_cases hp : p < d.length * k
  · have hk0 : 0 < k := by
      rcases Nat.eq_zero_or_pos k with h | h
      · subst h; simp at hp
      · exact h
    have hi : p / k < d.length := Nat.div_lt_of_lt_mul (by rw [Nat.mul_comm]; exact hp)
    have hj : p % k < k := Nat.mod_lt _ hk0
    have h1 := flatten_at (d.map enc) hz (p / k) (p % k) (enc d[p / k]) ((enc d[p / k])[p % k]'(by rw [hk]; exact hj)) (by simp [hi]) (List.getElem?_eq_getElem _)
    rw [Nat.div_add_mod'] at h1
    rw [List.toList_toArray, h1, Array.getElem?_toList]
    simp [flatK, hp, hi, hk, hj]
  · rw [List.getElem?_eq_none (by simp; omega), List.getElem?_eq_none (by simp [hl]; omega)]
theorem putRow_id (enc : α → Value) (w : World) (g : Nat) (d : Array α) : putRow enc w g 0 d = putRow id w g 0 (d.map enc) := by
  unfold putRow
  refine mapBlock_congr _ _ _ _ fun c _ _ _ => ?_
  apply Array.ext_getElem?
  intro k
  simp only [putCells, Array.getElem?_mapIdx, Array.size_map]
  cases c[k]? with
  | none => rfl
  | some y =>
    simp only [Option.map_some, Nat.sub_zero, Nat.zero_add]
    by_cases hk : 0 ≤ k ∧ k < d.size
    · rw [if_pos hk, if_pos hk]; simp [hk.2]
    · rw [if_neg hk, if_neg hk]
/-- slices.SortFunc at structs, under a comparison that parts whatever two that are not one. -/
theorem turns_sortFunc {P : Program} {ρ : Ren} (L : SlLaysF0.n6 P ρ) {e : TypeId} (k : Nat) (aE : ∀ w, (isAgg (ρ.t 24)).run P w = .ok true w) (zE : ∀ w, (Go.sizeOf (ρ.t 24)).run P w = .ok k w) (enc : α → List Value) (hk : ∀ x, (enc x).length = k) (h1 : ∀ x, ∀ v ∈ enc x, v.oneCell' = true)
    (cf : α → α → Int) (hO : SWO (ltOf cf)) (g : Nat) (cb : Array Value) (d : List α) (hd : 0 < d.length) (hsz : d.length < 4611686018427387904) (ef : ∀ (args : Array Value) (w : World), (callFunc (ρ.f 6) args).run P w = .ok (.enter (ρ.f 6) args) w) (eg : ∀ args w, (callFunc g args).run P w = .ok (.enter g args) w)
    (hcmp : ∀ blk w, CmpLays P g cb enc k cf blk 0 d.length w) (hT : ∀ x y, (ltOf cf) x y = false → (ltOf cf) y x = false → x = y) :
    Turns P (ρ.f 6) [.func (.func g) #[] cb] e k (d.map enc) ((d.mergeSort fun x y => !(ltOf cf) y x).map enc) := by
  refine turns_base (by simpa using hd) ef (by simp) (fun l hl => ?_) (fun l hl => ?_) fun w b cap hH hb => ?_
  · obtain ⟨x, _, rfl⟩ := List.mem_map.1 hl
    exact hk x
  · obtain ⟨x, _, rfl⟩ := List.mem_map.1 hl
    exact ⟨hk x, h1 x⟩
  · have := AnyQ.slices_SortFunc_total L k aE zE enc hk h1 cf hO g cb b 0 cap d.toArray w eg (by simpa using hcmp b w) (by unfold HoldsK; rw [flatK_list enc k hk]; exact hH) hb (by simpa using hsz) hT
    rw [List.length_map]
    refine (by simpa using this : Calls P (ρ.f 6) #[.slice (some ⟨b, 0, none⟩) d.length cap, .func (.func g) #[] cb] w _).mono ?_
    rintro ex w' ⟨rfl, n, os, rfl⟩
    refine ⟨rfl, n, os, ?_⟩
    unfold sortWorldK putRowK
    rw [flatK_list enc k hk]
end
end Go.Proofs.YthepkabfiooabaaDoor
