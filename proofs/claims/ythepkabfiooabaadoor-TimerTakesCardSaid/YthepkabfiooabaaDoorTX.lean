/- Dues that came in, opened. -/
import Derived.Test.YthepkabfiooabaaDoorOR
import Derived.Test.YthepkabfiooabaaDoorTG
import Derived.Test.YthepkabfiooabaaDoorTN
namespace Go.Proofs.YthepkabfiooabaaDoor
open Go.RowKit Go.ChangeShapes Go.WideShapes Go.Deep

theorem c_int : Tryd.prog.cellsOf 3 = 1 := by kernel_rfl
theorem c_string : Tryd.prog.cellsOf 9 = 1 := by kernel_rfl
theorem c_due : Tryd.prog.cellsOf 32 = 3 := by kernel_rfl
def few_due (d : Due) : Prop := d.name.length ≤ maxLen
section
variable {H : Type} {enc : TypeId × Value → H} {w : World} {base : Nat} {spare : Nat → Bool} {held : Bool}
set_option maxRecDepth 100000 in
theorem open_due (m : Nat) (cs : List Value) (y : DataW H × List MemPlace) (h : DataW.trod enc Tryd.prog w base spare held m 32 cs = some y) : ∃ a : Due, RE w dueC few_due cs a := by
  obtain ⟨xs, n, _, _, hl, hxl, hg⟩ := DataW.trod_struct Tryd.underlying32 h
  rw [c_due] at hl
  obtain ⟨c0, c1, c2, rfl⟩ := len_3 hl
  obtain ⟨y0, h0⟩ := trodF hxl hg 0 _ rfl 3 0 1 rfl rfl c_int
  obtain ⟨x0, e0, -, -⟩ := DataW.trod_int Tryd.underlying3 (show DataW.trod enc Tryd.prog w base spare held n 3 [c0] = some y0 from h0)
  cases e0
  obtain ⟨y1, h1⟩ := trodF hxl hg 1 _ rfl 3 1 1 rfl rfl c_int
  obtain ⟨x1, e1, -, -⟩ := DataW.trod_int Tryd.underlying3 (show DataW.trod enc Tryd.prog w base spare held n 3 [c1] = some y1 from h1)
  cases e1
  obtain ⟨y2, h2⟩ := trodF hxl hg 2 _ rfl 9 2 1 rfl rfl c_string
  obtain ⟨x2, e2, -, s2⟩ := DataW.trod_string Tryd.underlying9 (show DataW.trod enc Tryd.prog w base spare held n 9 [c2] = some y2 from h2)
  cases e2
  obtain ⟨⟨t2⟩⟩ := x2
  exact ⟨⟨x0, x1, t2⟩, ⟨⟨rfl, .lit _⟩, ⟨rfl, .lit _⟩, ⟨rfl, .lit _⟩, trivial⟩, by simpa [few_due, ByteArray.size] using s2⟩
/-- Dues by a slice. -/
theorem open_dues {v : Value} {d : DataW H} {p : List MemPlace} (hc : v.cells = #[v]) (h : DataW.Trod enc Tryd.prog w base spare held 22 v d p) :
    ∃ l : List Due, (∀ d ∈ l, d.name.length ≤ 9223372036854775807) ∧ RV (fun b _ => b < w.heap.size) w v (dues l) := by
  obtain ⟨fuel, hf⟩ := h
  rw [hc] at hf
  obtain ⟨u, l, e, ⟨_, hr⟩, _, hfew⟩ := open_rows (size := 3) dueC few_due (fun _ => rfl) Tryd.underlying22 c_due (by decide) open_due hf
  cases e
  exact ⟨l, fun d hd => by simpa [few_due, maxLen] using hfew d hd, hr⟩
end
end Go.Proofs.YthepkabfiooabaaDoor
