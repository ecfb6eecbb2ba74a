/- Arguments that hold structs, opened: as values of the walk without memory. -/
import Derived.Test.YthepkabfiooabaaDoorBr
import Derived.Test.YthepkabfiooabaaDoorLaid
namespace Go.Proofs.YthepkabfiooabaaDoor
open Go.RowKit Go.ChangeShapes Go.WideShapes Go.Deep

section
variable {H : Type} {enc : TypeId × Value → H} {P : Program} {w : World} {base : Nat} {spare : Nat → Bool} {held : Bool}
theorem trodF {fs : Array Field} {cs : List Value} {n : Nat} {xs : List (DataW H × List MemPlace)} (hx : xs.length = fs.size) (hg : ∀ (i : Nat) (f : Field), fs[i]? = some f → DataW.trod enc P w base spare held n f.type ((cs.drop f.offset).take (P.cellsOf f.type)) = xs[i]?)
    (i : Nat) (f : Field) (hf : fs[i]? = some f) (ty off k : Nat) (h1 : f.type = ty) (h2 : f.offset = off) (h3 : P.cellsOf ty = k) : ∃ y, DataW.trod enc P w base spare held n ty ((cs.drop off).take k) = some y := by
  have h := hg i f hf
  rw [h1, h2, h3] at h
  have hi : i < fs.size := (Array.getElem?_eq_some_iff.1 hf).1
  rw [List.getElem?_eq_getElem (by omega)] at h
  exact ⟨_, h⟩
/-- Cells that read as an element. -/
def RE {α : Type} (w : World) (en : α → List AV) (few : α → Prop) (cs : List Value) (a : α) : Prop := RVs (fun b _ => b < w.heap.size) w cs (en a) ∧ few a
theorem open_rows {α : Type} {t e : TypeId} {size fuel : Nat} {cs : List Value} {x : DataW H × List MemPlace} (en : α → List AV) (few : α → Prop) (hen : ∀ a, (en a).length = size) (ht : P.underlying t = some (.slice e)) (hC : P.cellsOf e = size) (hpos : 0 < size)
    (hR : ∀ (m : Nat) (cs : List Value) (y : DataW H × List MemPlace), DataW.trod enc P w base spare held m e cs = some y → ∃ a, RE w en few cs a)
    (h : DataW.trod enc P w base spare held fuel t cs = some x) : ∃ (v : Value) (l : List α), cs = [v] ∧ (v.oneCell' = true ∧ RV (fun b _ => b < w.heap.size) w v (.seq size (l.map en))) ∧ l.length ≤ maxLen ∧ ∀ a ∈ l, few a := by
  obtain ⟨v, l, e1, hl⟩ := open_list (R := RE w en few) ht hC hpos hR h
  have hrv := list_rv en hen hl fun cs a _ hr j u c hu hc => hr.1.at_.2 j u c hu hc
  obtain ⟨A, c, xs, rfl, _, h2, _, hrow⟩ := hl
  refine ⟨_, l, e1, ⟨rfl, hrv⟩, h2, fun a ha => ?_⟩
  obtain ⟨i, hi, rfl⟩ := List.getElem_of_mem ha
  exact (hrow.2 i hi).2
theorem len_3 {l : List Value} (h : l.length = 3) : ∃ a b c, l = [a, b, c] := by
  match l, h with
  | [a, b, c], _ => exact ⟨a, b, c, rfl⟩
theorem len_2 {l : List Value} (h : l.length = 2) : ∃ a b, l = [a, b] := by
  match l, h with
  | [a, b], _ => exact ⟨a, b, rfl⟩
theorem len_4 {l : List Value} (h : l.length = 4) : ∃ a b c d, l = [a, b, c, d] := by
  match l, h with
  | [a, b, c, d], _ => exact ⟨a, b, c, d, rfl⟩
theorem len_5 {l : List Value} (h : l.length = 5) : ∃ a b c d e, l = [a, b, c, d, e] := by
  match l, h with
  | [a, b, c, d, e], _ => exact ⟨a, b, c, d, e, rfl⟩
theorem len_6 {l : List Value} (h : l.length = 6) : ∃ a b c d e f, l = [a, b, c, d, e, f] := by
  match l, h with
  | [a, b, c, d, e, f], _ => exact ⟨a, b, c, d, e, f, rfl⟩
end
end Go.Proofs.YthepkabfiooabaaDoor
