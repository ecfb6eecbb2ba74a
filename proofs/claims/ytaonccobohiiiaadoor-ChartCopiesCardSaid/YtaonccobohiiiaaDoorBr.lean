/- From contracts without memory to the walk with it, and back: slices as lists, aggregates. No program is named here. -/
import Derived.Test.YtaonccobohiiiaaDoorVC
import Derived.Test.YtaonccobohiiiaaDoorOpen
namespace Go.Proofs.YtaonccobohiiiaaDoor
open Go.RowKit

/-- Cells that read as values. -/
def RVs (S : Nat → Nat → Prop) (w : World) : List Value → List AV → Prop
  | [], [] => True
  | v :: vs, c :: cs => (v.oneCell' = true ∧ RV S w v c) ∧ RVs S w vs cs
  | _, _ => False
/-- Arguments that read as values. -/
def RAs (S : Nat → Nat → Prop) (w : World) : List Value → List AV → Prop
  | [], [] => True
  | v :: vs, c :: cs => RV S w v c ∧ RAs S w vs cs
  | _, _ => False
section
variable {S : Nat → Nat → Prop} {w : World}
theorem RVs.at_ : ∀ {vs : List Value} {cs : List AV}, RVs S w vs cs → vs.length = cs.length ∧ ∀ (i : Nat) (v : Value) (c : AV), vs[i]? = some v → cs[i]? = some c → v.oneCell' = true ∧ RV S w v c
  | [], [], _ => ⟨rfl, fun i v c h _ => by simp at h⟩
  | v :: vs, c :: cs, ⟨h, hs⟩ => by
    obtain ⟨h1, h2⟩ := RVs.at_ hs
    refine ⟨by simp [h1], fun i u d hu hd => ?_⟩
    cases i with
    | zero =>
      simp only [List.getElem?_cons_zero, Option.some.injEq] at hu hd
      subst hu hd
      exact h
    | succ i => exact h2 i u d (by simpa using hu) (by simpa using hd)
  | [], _ :: _, h => h.elim
  | _ :: _, [], h => h.elim
theorem RAs.at_ : ∀ {vs : List Value} {cs : List AV}, RAs S w vs cs → vs.length = cs.length ∧ ∀ (i : Nat) (v : Value) (c : AV), vs[i]? = some v → cs[i]? = some c → RV S w v c
  | [], [], _ => ⟨rfl, fun i v c h _ => by simp at h⟩
  | v :: vs, c :: cs, ⟨h, hs⟩ => by
    obtain ⟨h1, h2⟩ := RAs.at_ hs
    refine ⟨by simp [h1], fun i u d hu hd => ?_⟩
    cases i with
    | zero =>
      simp only [List.getElem?_cons_zero, Option.some.injEq] at hu hd
      subst hu hd
      exact h
    | succ i => exact h2 i u d (by simpa using hu) (by simpa using hd)
  | [], _ :: _, h => h.elim
  | _ :: _, [], h => h.elim
theorem RVs.agg {vs : List Value} {cs : List AV} (h : RVs S w vs cs) : RV S w (.agg vs.toArray) (.agg cs) := by
  obtain ⟨h1, h2⟩ := h.at_
  refine .agg vs cs h1 (fun v hv => ?_) fun i v c hv hc => (h2 i v c hv hc).2
  obtain ⟨i, hi, rfl⟩ := List.getElem_of_mem hv
  exact (h2 i _ _ (List.getElem?_eq_getElem hi) (List.getElem?_eq_getElem (by omega))).1
theorem RV.agg_inv {v : Value} {cs : List AV} (h : RV S w v (.agg cs)) : ∃ vs : List Value, v = .agg vs.toArray ∧ vs.length = cs.length ∧ ∀ (i : Nat) (u : Value) (c : AV), vs[i]? = some u → cs[i]? = some c → u.oneCell' = true ∧ RV S w u c := by
  cases h with
  | agg vs _ h h1 hc => exact ⟨vs, rfl, h, fun i u c hu hcc => ⟨h1 u (List.mem_of_getElem? hu), hc i u c hu hcc⟩⟩
theorem RV.tuple_inv {v : Value} {cs : List AV} (h : RV S w v (.tuple cs)) : ∃ vs : List Value, v = .tuple vs.toArray ∧ vs.length = cs.length ∧ ∀ (i : Nat) (u : Value) (c : AV), vs[i]? = some u → cs[i]? = some c → RV S w u c := by
  cases h with
  | tuple vs _ h hc => exact ⟨vs, rfl, h, hc⟩
theorem RV.lit_inv {v u : Value} (h : RV S w v (.lit u)) : v = u := by
  cases h; rfl
end

/-- A slice of plain elements. -/
theorem list_rv {α : Type} {w : World} {B size : Nat} {R : List Value → α → Prop} {v : Value} {l : List α} (enc : α → List AV) (hz : ∀ a, (enc a).length = size) (h : ListAt w B size R v l)
    (hR : ∀ cs a, a ∈ l → R cs a → ∀ (j : Nat) (u : Value) (c : AV), cs[j]? = some u → (enc a)[j]? = some c → u.oneCell' = true ∧ RV (fun b _ => b < B) w u c) : RV (fun b _ => b < B) w v (.seq size (l.map enc)) := by
  obtain ⟨A, c, xs, rfl, hc, hm, hr, hrow⟩ := h
  have hz' : ∀ (i : Nat) (e : List AV), (l.map enc)[i]? = some e → e.length = size := fun i e he => by
    rw [List.getElem?_map] at he
    cases hx : l[i]? with
    | none => rw [hx] at he; cases he
    | some a => rw [hx] at he; cases he; exact hz a
  have key : ∀ (i j : Nat) (c : AV), cellAt (l.map enc) i j = some c → ∃ u, xs[i * size + j]? = some u ∧ u.oneCell' = true ∧ RV (fun b _ => b < B) w u c := fun i j c hh => by
    have hlt := cellAt_lt hz' hh
    rw [List.length_map] at hlt
    have hj : (enc (l[i]'hlt.1))[j]? = some c := by
      unfold cellAt at hh
      rw [List.getElem?_map, List.getElem?_eq_getElem hlt.1] at hh
      exact hh
    have hlen := elem_len hrow i hlt.1
    have hju : ((xs.drop (i * size)).take size)[j]? = some (((xs.drop (i * size)).take size)[j]'(by omega)) := List.getElem?_eq_getElem _
    refine ⟨_, ?_, hR _ _ (List.getElem_mem hlt.1) (hrow.2 i hlt.1) j _ c hju hj⟩
    rw [← hju, List.getElem?_take, if_pos hlt.2, List.getElem?_drop]
  by_cases h0 : l = []
  · subst h0
    exact .seq A 0 c size [] 0 0 (fun _ _ => undef) rfl (Nat.zero_le _) (fun h => by omega) (fun i e he => by simp at he) (fun i j c hc => by simp [cellAt] at hc) (fun i j c hc => by simp [cellAt] at hc)
  · obtain ⟨b, off, rfl, hb, hcell⟩ := hr.2 (List.length_pos_iff.2 h0)
    refine .seq _ _ c size _ b off (fun i j => xs.getD (i * size + j) undef) (by simp) hc (fun _ => rfl) hz' (fun i j c hh => ?_) fun i j c hh => ?_
    · obtain ⟨u, h1, h2, _⟩ := key i j c hh
      have : xs.getD (i * size + j) undef = u := by simp [List.getD, h1]
      rw [this]
      exact ⟨hb, hcell _ u h1, h2⟩
    · obtain ⟨u, h1, _, h2⟩ := key i j c hh
      have : xs.getD (i * size + j) undef = u := by simp [List.getD, h1]
      rw [this]
      exact h2
/-- And back. -/
theorem rv_list {α : Type} {w : World} {B size : Nat} {R : List Value → α → Prop} {v : Value} {l : List α} (enc : α → List AV) (hz : ∀ a, (enc a).length = size) (hs : 0 < size) (hmax : l.length ≤ maxLen) (h : RV (fun b _ => b < B) w v (.seq size (l.map enc)))
    (hR : ∀ a (cs : List Value), a ∈ l → cs.length = size → (∀ (j : Nat) (u : Value) (c : AV), cs[j]? = some u → (enc a)[j]? = some c → RV (fun b _ => b < B) w u c) → R cs a) : ListAt w B size R v l := by
  cases h with
  | seq A n cap sz es b o u hn hcap hA hz' hc hr =>
    rw [List.length_map] at hn
    subst hn
    have cell : ∀ (i j : Nat) (hi : i < l.length) (hj : j < size), cellAt (l.map enc) i j = some ((enc l[i])[j]'(by rw [hz]; exact hj)) := fun i j hi hj => by
      unfold cellAt
      rw [List.getElem?_map, List.getElem?_eq_getElem hi]
      exact List.getElem?_eq_getElem _
    obtain ⟨f, hf⟩ : ∃ f : Nat → List Value, f = fun i => (List.range size).map (u i) := ⟨_, rfl⟩
    have hfl : ∀ i, (f i).length = size := fun i => by rw [hf]; simp
    refine ⟨A, cap, (List.range l.length).flatMap f, rfl, hcap, hmax, ⟨flat_len f size _ fun i _ => hfl i, fun hpos => ⟨b, o, hA hpos, ?_, ?_⟩⟩, flat_len f size _ fun i _ => hfl i, fun i hi => ?_⟩
    · exact (hc 0 0 _ (cell 0 0 hpos hs)).1
    · intro j x hx
      have hjl : j < l.length * size := by
        have := (List.getElem?_eq_some_iff.1 hx).1
        rw [flat_len f size _ fun i _ => hfl i] at this
        exact this
      have hi : j / size < l.length := Nat.div_lt_of_lt_mul (by rw [Nat.mul_comm]; exact hjl)
      have hr' : j % size < size := Nat.mod_lt _ hs
      have hj : j / size * size + j % size = j := Nat.div_add_mod' j size
      have hp := flat_part f size _ (fun i _ => hfl i) (j / size) hi
      have hx2 : (f (j / size))[j % size]? = some x := by
        rw [← hp, List.getElem?_take, if_pos hr', List.getElem?_drop, hj]
        exact hx
      have hxu : x = u (j / size) (j % size) := by
        rw [hf] at hx2
        simp [hr'] at hx2
        exact hx2.symm
      have := (hc _ _ _ (cell _ _ hi hr')).2.1
      rw [hj] at this
      rw [hxu]
      exact this
    · rw [flat_part f size _ (fun i _ => hfl i) i hi]
      refine hR _ _ (List.getElem_mem hi) (hfl i) fun j x c hx hc' => ?_
      have hj : j < size := by have := (List.getElem?_eq_some_iff.1 hx).1; rw [hfl] at this; exact this
      have hxu : x = u i j := by
        rw [hf] at hx
        simp [hj] at hx
        exact hx.symm
      rw [hxu]
      refine hr i j c ?_
      rw [cell i j hi hj]
      rw [List.getElem?_eq_getElem (by rw [hz]; exact hj)] at hc'
      exact hc'

/-- A call by a contract without memory. -/
theorem con_calls {P : Program} {f : FuncId} {cs : List AV} {res : AV} {w : World} {vs : List Value} (h : Con P Env.none f cs res) (hres : ∀ e sz es, res ≠ .own e sz es) (hv : RAs (fun b _ => b < w.heap.size) w vs cs) :
    Calls P f vs.toArray w fun e w' => ∃ v, e = .returned v ∧ Below w.heap.size w w' ∧ RV (fun b _ => b < w'.heap.size) w' v res := by
  obtain ⟨h1, h2⟩ := hv.at_
  refine (h.calls w (fun b _ => b < w.heap.size) vs ⟨trivial, fun b o hb => hb, fun g c hg => by (cases hg)⟩ h1 h2).mono ?_
  rintro e w' ⟨v, rfl, hb, S', _, _, hlt, hr⟩
  refine ⟨v, rfl, hb, ?_⟩
  have hr' : RV S' w' v res := by
    cases res with
    | own e sz es => exact (hres e sz es rfl).elim
    | _ => exact hr
  exact hr'.mono fun b o hbo => ⟨hlt b o hbo, .rfl⟩
end Go.Proofs.YtaonccobohiiiaaDoor
