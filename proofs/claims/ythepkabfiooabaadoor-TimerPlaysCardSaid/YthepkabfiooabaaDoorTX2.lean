/- Calls of an agenda that came in, opened. -/
import Derived.Test.YthepkabfiooabaaDoorTX
import Derived.Test.YthepkabfiooabaaDoorTZ2
namespace Go.Proofs.YthepkabfiooabaaDoor
open Go.RowKit Go.ChangeShapes Go.WideShapes Go.Deep

theorem c_actT : Tryd.prog.cellsOf 48 = 4 := by kernel_rfl
def few_actT (x : ActT) : Prop := few_due x.due
section
variable {H : Type} {enc : TypeId × Value → H} {w : World} {base : Nat} {spare : Nat → Bool} {held : Bool}
set_option maxRecDepth 100000 in
theorem open_actT (m : Nat) (cs : List Value) (y : DataW H × List MemPlace) (h : DataW.trod enc Tryd.prog w base spare held m 48 cs = some y) : ∃ a : ActT, RE w actT few_actT cs a := by
  obtain ⟨xs, n, _, _, hl, hxl, hg⟩ := DataW.trod_struct Tryd.underlying48 h
  rw [c_actT] at hl
  obtain ⟨c0, c1, c2, c3, rfl⟩ := len_4 hl
  obtain ⟨y0, h0⟩ := trodF hxl hg 0 _ rfl 3 0 1 rfl rfl c_int
  obtain ⟨x0, e0, -, -⟩ := DataW.trod_int Tryd.underlying3 (show DataW.trod enc Tryd.prog w base spare held n 3 [c0] = some y0 from h0)
  cases e0
  obtain ⟨y1, h1⟩ := trodF hxl hg 1 _ rfl 32 1 3 rfl rfl c_due
  obtain ⟨d, hd, hf⟩ := open_due n [c1, c2, c3] y1 h1
  exact ⟨⟨x0, d⟩, ⟨⟨rfl, .lit _⟩, hd⟩, hf⟩
/-- Calls by a slice. -/
theorem open_actTs {v : Value} {d : DataW H} {p : List MemPlace} (hc : v.cells = #[v]) (h : DataW.Trod enc Tryd.prog w base spare held 44 v d p) :
    ∃ l : List ActT, (∀ x ∈ l, x.due.name.length ≤ 9223372036854775807) ∧ RV (fun b _ => b < w.heap.size) w v (.seq 4 (l.map actT)) := by
  obtain ⟨fuel, hf⟩ := h
  rw [hc] at hf
  obtain ⟨u, l, e, ⟨_, hr⟩, _, hfew⟩ := open_rows (size := 4) actT few_actT (fun _ => rfl) Tryd.underlying44 c_actT (by decide) open_actT hf
  cases e
  exact ⟨l, fun d hd => by simpa [few_actT, few_due, maxLen] using hfew d hd, hr⟩
set_option maxRecDepth 100000 in
/-- A due by value. -/
theorem open_dueV {r0 : Reach} {b0 : Nat} {v : Value} {d : DataW H} {p : List MemPlace} (hv : Value.okWide Tryd.prog w r0 b0 32 v) (h : DataW.Trod enc Tryd.prog w base spare held 32 v d p) :
    ∃ x : Due, x.name.length ≤ 9223372036854775807 ∧ RV (fun b _ => b < w.heap.size) w v (.agg (dueC x)) := by
  obtain ⟨cs, rfl, hsz⟩ := okWide_struct Tryd.underlying32 hv
  obtain ⟨l⟩ := cs
  obtain ⟨fuel, hf⟩ := h
  obtain ⟨c, h1, h2⟩ := open_due _ _ _ hf
  exact ⟨c, by simpa [few_due, maxLen] using h2, RVs.agg h1⟩
end
end Go.Proofs.YthepkabfiooabaaDoor
