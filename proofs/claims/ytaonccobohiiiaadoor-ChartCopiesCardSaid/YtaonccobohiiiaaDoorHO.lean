/- A chart that came in, opened. -/
import Derived.Test.YtaonccobohiiiaaDoorHD
import Derived.Test.YtaonccobohiiiaaDoorBr
import Derived.Test.YtaonccobohiiiaaDoorLaid
namespace Go.Proofs.YtaonccobohiiiaaDoor
open Go.RowKit Go.ChangeShapes Go.WideShapes Go.Deep

section
variable {H : Type} {enc : TypeId × Value → H} {P : Program} {w : World} {base : Nat} {spare : Nat → Bool} {held : Bool}
theorem trodF {fs : Array Field} {cs : List Value} {n : Nat} {xs : List (DataW H × List MemPlace)} (hx : xs.length = fs.size) (hg : ∀ (i : Nat) (f : Field), fs[i]? = some f → DataW.trod enc P w base spare held n f.type ((cs.drop f.offset).take (P.cellsOf f.type)) = xs[i]?)
    (i : Nat) (f : Field) (hf : fs[i]? = some f) (ty off k : Nat) (h1 : f.type = ty) (h2 : f.offset = off) (h3 : P.cellsOf ty = k) : ∃ y, DataW.trod enc P w base spare held n ty ((cs.drop off).take k) = some y := by
  have h := hg i f hf
  rw [h1, h2, h3] at h
  have hi : i < fs.size := (Array.getElem?_eq_some_iff.1 hf).1
  rw [List.getElem?_eq_getElem (by omega)] at h
  exact ⟨_, h⟩
/-- Cells that read as an element. -/
def RE {α : Type} (w : World) (en : α → List AV) (few : α → Prop) (cs : List Value) (a : α) : Prop := RVs (fun b _ => b < w.heap.size) w cs (en a) ∧ few a
theorem open_rows {α : Type} {t e : TypeId} {size fuel : Nat} {cs : List Value} {x : DataW H × List MemPlace} (en : α → List AV) (few : α → Prop) (hen : ∀ a, (en a).length = size) (ht : P.underlying t = some (.slice e)) (hC : P.cellsOf e = size) (hpos : 0 < size)
    (hR : ∀ (m : Nat) (cs : List Value) (y : DataW H × List MemPlace), DataW.trod enc P w base spare held m e cs = some y → ∃ a, RE w en few cs a)
    (h : DataW.trod enc P w base spare held fuel t cs = some x) : ∃ (v : Value) (l : List α), cs = [v] ∧ (v.oneCell' = true ∧ RV (fun b _ => b < w.heap.size) w v (.seq size (l.map en))) ∧ l.length ≤ maxLen ∧ ∀ a ∈ l, few a := by
  obtain ⟨v, l, e1, hl⟩ := open_list (R := RE w en few) ht hC hpos hR h
  have hrv := list_rv en hen hl fun cs a _ hr j u c hu hc => hr.1.at_.2 j u c hu hc
  obtain ⟨A, c, xs, rfl, _, h2, _, hrow⟩ := hl
  refine ⟨_, l, e1, ⟨rfl, hrv⟩, h2, fun a ha => ?_⟩
  obtain ⟨i, hi, rfl⟩ := List.getElem_of_mem ha
  exact (hrow.2 i hi).2
theorem len_2 {l : List Value} (h : l.length = 2) : ∃ a b, l = [a, b] := by
  match l, h with
  | [a, b], _ => exact ⟨a, b, rfl⟩
theorem len_4 {l : List Value} (h : l.length = 4) : ∃ a b c d, l = [a, b, c, d] := by
  match l, h with
  | [a, b, c, d], _ => exact ⟨a, b, c, d, rfl⟩
theorem len_5 {l : List Value} (h : l.length = 5) : ∃ a b c d e, l = [a, b, c, d, e] := by
  match l, h with
  | [a, b, c, d, e], _ => exact ⟨a, b, c, d, e, rfl⟩
theorem len_6 {l : List Value} (h : l.length = 6) : ∃ a b c d e f, l = [a, b, c, d, e, f] := by
  match l, h with
  | [a, b, c, d, e, f], _ => exact ⟨a, b, c, d, e, f, rfl⟩
end
theorem c_int : Tryd.prog.cellsOf 3 = 1 := by kernel_rfl
theorem c_string : Tryd.prog.cellsOf 9 = 1 := by kernel_rfl
theorem c_ops : Tryd.prog.cellsOf 33 = 1 := by kernel_rfl
theorem c_acts : Tryd.prog.cellsOf 30 = 1 := by kernel_rfl
theorem c_sts : Tryd.prog.cellsOf 23 = 1 := by kernel_rfl
theorem c_trs : Tryd.prog.cellsOf 24 = 1 := by kernel_rfl
theorem c_vars : Tryd.prog.cellsOf 22 = 1 := by kernel_rfl
theorem c_op : Tryd.prog.cellsOf 39 = 2 := by kernel_rfl
theorem c_act : Tryd.prog.cellsOf 35 = 4 := by kernel_rfl
theorem c_st : Tryd.prog.cellsOf 32 = 6 := by kernel_rfl
theorem c_tr : Tryd.prog.cellsOf 37 = 5 := by kernel_rfl
theorem c_var : Tryd.prog.cellsOf 41 = 2 := by kernel_rfl
theorem c_ch : Tryd.prog.cellsOf 26 = 5 := by kernel_rfl
section
variable {H : Type} {enc : TypeId × Value → H} {w : World} {base : Nat} {spare : Nat → Bool} {held : Bool}
set_option maxRecDepth 100000 in
theorem open_op (m : Nat) (cs : List Value) (y : DataW H × List MemPlace) (h : DataW.trod enc Tryd.prog w base spare held m 39 cs = some y) : ∃ a : OpD, RE w opAV few_op cs a := by
  obtain ⟨xs, n, _, _, hl, hxl, hg⟩ := DataW.trod_struct Tryd.underlying39 h
  rw [c_op] at hl
  obtain ⟨c0, c1, rfl⟩ := len_2 hl
  obtain ⟨y0, h0⟩ := trodF hxl hg 0 _ rfl 3 0 1 rfl rfl c_int
  obtain ⟨x0, e0, -, -⟩ := DataW.trod_int Tryd.underlying3 (show DataW.trod enc Tryd.prog w base spare held n 3 [c0] = some y0 from h0)
  cases e0
  obtain ⟨y1, h1⟩ := trodF hxl hg 1 _ rfl 3 1 1 rfl rfl c_int
  obtain ⟨x1, e1, -, -⟩ := DataW.trod_int Tryd.underlying3 (show DataW.trod enc Tryd.prog w base spare held n 3 [c1] = some y1 from h1)
  cases e1
  exact ⟨⟨x0, x1⟩, ⟨⟨rfl, .lit _⟩, ⟨rfl, .lit _⟩, trivial⟩, trivial⟩
set_option maxRecDepth 100000 in
theorem open_act (m : Nat) (cs : List Value) (y : DataW H × List MemPlace) (h : DataW.trod enc Tryd.prog w base spare held m 35 cs = some y) : ∃ a : ActD, RE w actAV few_act cs a := by
  obtain ⟨xs, n, _, _, hl, hxl, hg⟩ := DataW.trod_struct Tryd.underlying35 h
  rw [c_act] at hl
  obtain ⟨c0, c1, c2, c3, rfl⟩ := len_4 hl
  obtain ⟨y0, h0⟩ := trodF hxl hg 0 _ rfl 3 0 1 rfl rfl c_int
  obtain ⟨x0, e0, -, -⟩ := DataW.trod_int Tryd.underlying3 (show DataW.trod enc Tryd.prog w base spare held n 3 [c0] = some y0 from h0)
  cases e0
  obtain ⟨y1, h1⟩ := trodF hxl hg 1 _ rfl 3 1 1 rfl rfl c_int
  obtain ⟨x1, e1, -, -⟩ := DataW.trod_int Tryd.underlying3 (show DataW.trod enc Tryd.prog w base spare held n 3 [c1] = some y1 from h1)
  cases e1
  obtain ⟨y2, h2⟩ := trodF hxl hg 2 _ rfl 9 2 1 rfl rfl c_string
  obtain ⟨x2, e2, -, s2⟩ := DataW.trod_string Tryd.underlying9 (show DataW.trod enc Tryd.prog w base spare held n 9 [c2] = some y2 from h2)
  cases e2
  obtain ⟨⟨t2⟩⟩ := x2
  obtain ⟨y3, h3⟩ := trodF hxl hg 3 _ rfl 33 3 1 rfl rfl c_ops
  obtain ⟨x3, l3, e3, r3, n3, p3⟩ := open_rows (size := 2) opAV few_op (fun _ => rfl) Tryd.underlying33 c_op (by decide) open_op (show DataW.trod enc Tryd.prog w base spare held n 33 [c3] = some y3 from h3)
  cases e3
  exact ⟨⟨x0, x1, t2, l3⟩, ⟨⟨rfl, .lit _⟩, ⟨rfl, .lit _⟩, ⟨rfl, .lit _⟩, r3, trivial⟩, (by simpa [ByteArray.size] using s2), ⟨n3, p3⟩⟩
set_option maxRecDepth 100000 in
theorem open_st (m : Nat) (cs : List Value) (y : DataW H × List MemPlace) (h : DataW.trod enc Tryd.prog w base spare held m 32 cs = some y) : ∃ a : StD, RE w stAV few_st cs a := by
  obtain ⟨xs, n, _, _, hl, hxl, hg⟩ := DataW.trod_struct Tryd.underlying32 h
  rw [c_st] at hl
  obtain ⟨c0, c1, c2, c3, c4, c5, rfl⟩ := len_6 hl
  obtain ⟨y0, h0⟩ := trodF hxl hg 0 _ rfl 9 0 1 rfl rfl c_string
  obtain ⟨x0, e0, -, s0⟩ := DataW.trod_string Tryd.underlying9 (show DataW.trod enc Tryd.prog w base spare held n 9 [c0] = some y0 from h0)
  cases e0
  obtain ⟨⟨t0⟩⟩ := x0
  obtain ⟨y1, h1⟩ := trodF hxl hg 1 _ rfl 3 1 1 rfl rfl c_int
  obtain ⟨x1, e1, -, -⟩ := DataW.trod_int Tryd.underlying3 (show DataW.trod enc Tryd.prog w base spare held n 3 [c1] = some y1 from h1)
  cases e1
  obtain ⟨y2, h2⟩ := trodF hxl hg 2 _ rfl 3 2 1 rfl rfl c_int
  obtain ⟨x2, e2, -, -⟩ := DataW.trod_int Tryd.underlying3 (show DataW.trod enc Tryd.prog w base spare held n 3 [c2] = some y2 from h2)
  cases e2
  obtain ⟨y3, h3⟩ := trodF hxl hg 3 _ rfl 3 3 1 rfl rfl c_int
  obtain ⟨x3, e3, -, -⟩ := DataW.trod_int Tryd.underlying3 (show DataW.trod enc Tryd.prog w base spare held n 3 [c3] = some y3 from h3)
  cases e3
  obtain ⟨y4, h4⟩ := trodF hxl hg 4 _ rfl 30 4 1 rfl rfl c_acts
  obtain ⟨x4, l4, e4, r4, n4, p4⟩ := open_rows (size := 4) actAV few_act (fun _ => rfl) Tryd.underlying30 c_act (by decide) open_act (show DataW.trod enc Tryd.prog w base spare held n 30 [c4] = some y4 from h4)
  cases e4
  obtain ⟨y5, h5⟩ := trodF hxl hg 5 _ rfl 30 5 1 rfl rfl c_acts
  obtain ⟨x5, l5, e5, r5, n5, p5⟩ := open_rows (size := 4) actAV few_act (fun _ => rfl) Tryd.underlying30 c_act (by decide) open_act (show DataW.trod enc Tryd.prog w base spare held n 30 [c5] = some y5 from h5)
  cases e5
  exact ⟨⟨t0, x1, x2, x3, l4, l5⟩, ⟨⟨rfl, .lit _⟩, ⟨rfl, .lit _⟩, ⟨rfl, .lit _⟩, ⟨rfl, .lit _⟩, r4, r5, trivial⟩, (by simpa [ByteArray.size] using s0), ⟨n4, p4⟩, ⟨n5, p5⟩⟩
set_option maxRecDepth 100000 in
theorem open_tr (m : Nat) (cs : List Value) (y : DataW H × List MemPlace) (h : DataW.trod enc Tryd.prog w base spare held m 37 cs = some y) : ∃ a : TrD, RE w trAV few_tr cs a := by
  obtain ⟨xs, n, _, _, hl, hxl, hg⟩ := DataW.trod_struct Tryd.underlying37 h
  rw [c_tr] at hl
  obtain ⟨c0, c1, c2, c3, c4, rfl⟩ := len_5 hl
  obtain ⟨y0, h0⟩ := trodF hxl hg 0 _ rfl 3 0 1 rfl rfl c_int
  obtain ⟨x0, e0, -, -⟩ := DataW.trod_int Tryd.underlying3 (show DataW.trod enc Tryd.prog w base spare held n 3 [c0] = some y0 from h0)
  cases e0
  obtain ⟨y1, h1⟩ := trodF hxl hg 1 _ rfl 9 1 1 rfl rfl c_string
  obtain ⟨x1, e1, -, s1⟩ := DataW.trod_string Tryd.underlying9 (show DataW.trod enc Tryd.prog w base spare held n 9 [c1] = some y1 from h1)
  cases e1
  obtain ⟨⟨t1⟩⟩ := x1
  obtain ⟨y2, h2⟩ := trodF hxl hg 2 _ rfl 33 2 1 rfl rfl c_ops
  obtain ⟨x2, l2, e2, r2, n2, p2⟩ := open_rows (size := 2) opAV few_op (fun _ => rfl) Tryd.underlying33 c_op (by decide) open_op (show DataW.trod enc Tryd.prog w base spare held n 33 [c2] = some y2 from h2)
  cases e2
  obtain ⟨y3, h3⟩ := trodF hxl hg 3 _ rfl 30 3 1 rfl rfl c_acts
  obtain ⟨x3, l3, e3, r3, n3, p3⟩ := open_rows (size := 4) actAV few_act (fun _ => rfl) Tryd.underlying30 c_act (by decide) open_act (show DataW.trod enc Tryd.prog w base spare held n 30 [c3] = some y3 from h3)
  cases e3
  obtain ⟨y4, h4⟩ := trodF hxl hg 4 _ rfl 3 4 1 rfl rfl c_int
  obtain ⟨x4, e4, -, -⟩ := DataW.trod_int Tryd.underlying3 (show DataW.trod enc Tryd.prog w base spare held n 3 [c4] = some y4 from h4)
  cases e4
  exact ⟨⟨x0, t1, l2, l3, x4⟩, ⟨⟨rfl, .lit _⟩, ⟨rfl, .lit _⟩, r2, r3, ⟨rfl, .lit _⟩, trivial⟩, (by simpa [ByteArray.size] using s1), ⟨n2, p2⟩, ⟨n3, p3⟩⟩
set_option maxRecDepth 100000 in
theorem open_var (m : Nat) (cs : List Value) (y : DataW H × List MemPlace) (h : DataW.trod enc Tryd.prog w base spare held m 41 cs = some y) : ∃ a : VarD, RE w varAV few_var cs a := by
  obtain ⟨xs, n, _, _, hl, hxl, hg⟩ := DataW.trod_struct Tryd.underlying41 h
  rw [c_var] at hl
  obtain ⟨c0, c1, rfl⟩ := len_2 hl
  obtain ⟨y0, h0⟩ := trodF hxl hg 0 _ rfl 9 0 1 rfl rfl c_string
  obtain ⟨x0, e0, -, s0⟩ := DataW.trod_string Tryd.underlying9 (show DataW.trod enc Tryd.prog w base spare held n 9 [c0] = some y0 from h0)
  cases e0
  obtain ⟨⟨t0⟩⟩ := x0
  obtain ⟨y1, h1⟩ := trodF hxl hg 1 _ rfl 3 1 1 rfl rfl c_int
  obtain ⟨x1, e1, -, -⟩ := DataW.trod_int Tryd.underlying3 (show DataW.trod enc Tryd.prog w base spare held n 3 [c1] = some y1 from h1)
  cases e1
  exact ⟨⟨t0, x1⟩, ⟨⟨rfl, .lit _⟩, ⟨rfl, .lit _⟩, trivial⟩, (by simpa [few_var, ByteArray.size] using s0)⟩
set_option maxRecDepth 100000 in
theorem open_ch (m : Nat) (cs : List Value) (y : DataW H × List MemPlace) (h : DataW.trod enc Tryd.prog w base spare held m 26 cs = some y) : ∃ a : ChD, RE w chAV few_ch cs a := by
  obtain ⟨xs, n, _, _, hl, hxl, hg⟩ := DataW.trod_struct Tryd.underlying26 h
  rw [c_ch] at hl
  obtain ⟨c0, c1, c2, c3, c4, rfl⟩ := len_5 hl
  obtain ⟨y0, h0⟩ := trodF hxl hg 0 _ rfl 9 0 1 rfl rfl c_string
  obtain ⟨x0, e0, -, s0⟩ := DataW.trod_string Tryd.underlying9 (show DataW.trod enc Tryd.prog w base spare held n 9 [c0] = some y0 from h0)
  cases e0
  obtain ⟨⟨t0⟩⟩ := x0
  obtain ⟨y1, h1⟩ := trodF hxl hg 1 _ rfl 3 1 1 rfl rfl c_int
  obtain ⟨x1, e1, -, -⟩ := DataW.trod_int Tryd.underlying3 (show DataW.trod enc Tryd.prog w base spare held n 3 [c1] = some y1 from h1)
  cases e1
  obtain ⟨y2, h2⟩ := trodF hxl hg 2 _ rfl 22 2 1 rfl rfl c_vars
  obtain ⟨x2, l2, e2, r2, n2, p2⟩ := open_rows (size := 2) varAV few_var (fun _ => rfl) Tryd.underlying22 c_var (by decide) open_var (show DataW.trod enc Tryd.prog w base spare held n 22 [c2] = some y2 from h2)
  cases e2
  obtain ⟨y3, h3⟩ := trodF hxl hg 3 _ rfl 23 3 1 rfl rfl c_sts
  obtain ⟨x3, l3, e3, r3, n3, p3⟩ := open_rows (size := 6) stAV few_st (fun _ => rfl) Tryd.underlying23 c_st (by decide) open_st (show DataW.trod enc Tryd.prog w base spare held n 23 [c3] = some y3 from h3)
  cases e3
  obtain ⟨y4, h4⟩ := trodF hxl hg 4 _ rfl 24 4 1 rfl rfl c_trs
  obtain ⟨x4, l4, e4, r4, n4, p4⟩ := open_rows (size := 5) trAV few_tr (fun _ => rfl) Tryd.underlying24 c_tr (by decide) open_tr (show DataW.trod enc Tryd.prog w base spare held n 24 [c4] = some y4 from h4)
  cases e4
  exact ⟨⟨t0, x1, l2, l3, l4⟩, ⟨⟨rfl, .lit _⟩, ⟨rfl, .lit _⟩, r2, r3, r4, trivial⟩, (by simpa [ByteArray.size] using s0), ⟨n2, p2⟩, ⟨n3, p3⟩, ⟨n4, p4⟩⟩
set_option maxRecDepth 100000 in
/-- A chart by value. -/
theorem open_chart {r0 : Reach} {b0 : Nat} {v : Value} {d : DataW H} {p : List MemPlace} (hv : Value.okWide Tryd.prog w r0 b0 26 v) (h : DataW.Trod enc Tryd.prog w base spare held 26 v d p) :
    ∃ c : ChD, few_ch c ∧ RV (fun b _ => b < w.heap.size) w v (.agg (chAV c)) := by
  obtain ⟨cs, rfl, hsz⟩ := okWide_struct Tryd.underlying26 hv
  obtain ⟨l⟩ := cs
  obtain ⟨fuel, hf⟩ := h
  obtain ⟨c, h1, h2⟩ := open_ch _ _ _ hf
  exact ⟨c, h2, RVs.agg h1⟩
end
end Go.Proofs.YtaonccobohiiiaaDoor
