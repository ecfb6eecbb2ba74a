/- A record that came in, opened; the table of math/bits and the sentinels, as the rows lay them. -/
import Derived.Test.YtbleibmjippmpaaDoorRec8
import Derived.Test.YtbleibmjippmpaaDoorLaid
namespace Go.Proofs.YtbleibmjippmpaaDoor
open Go.RowKit Go.ChangeShapes Go.WideShapes Go.Deep

section
variable {H : Type} {enc : TypeId × Value → H} {P : Program} {w : World} {base : Nat} {spare : Nat → Bool} {held : Bool}
theorem trod_field {fs : Array Field} {cs : List Value} {n : Nat} {xs : List (DataW H × List MemPlace)} (hx : xs.length = fs.size) (hg : ∀ (i : Nat) (f : Field), fs[i]? = some f → DataW.trod enc P w base spare held n f.type ((cs.drop f.offset).take (P.cellsOf f.type)) = xs[i]?)
    (i : Nat) (f : Field) (hf : fs[i]? = some f) (ty off k : Nat) (h1 : f.type = ty) (h2 : f.offset = off) (h3 : P.cellsOf ty = k) : ∃ y, DataW.trod enc P w base spare held n ty ((cs.drop off).take k) = some y := by
  have h := hg i f hf
  rw [h1, h2, h3] at h
  have hi : i < fs.size := (Array.getElem?_eq_some_iff.1 hf).1
  rw [List.getElem?_eq_getElem (by omega)] at h
  exact ⟨_, h⟩
end

section
variable {H : Type} {enc : TypeId × Value → H} {w : World} {base : Nat} {spare : Nat → Bool} {held : Bool}
theorem list_two {l : List Value} (h : l.length = 2) : ∃ a b, l = [a, b] := by
  match l, h with
  | [a, b], _ => exact ⟨a, b, rfl⟩
theorem list_eight {l : List Value} (h : l.length = 8) : ∃ a b c d e f x y, l = [a, b, c, d, e, f, x, y] := by
  match l, h with
  | [a, b, c, d, e, f, x, y], _ => exact ⟨a, b, c, d, e, f, x, y, rfl⟩
theorem cellsMem : Tryd.prog.cellsOf 81 = 2 := by kernel_rfl
theorem cellsTim : Tryd.prog.cellsOf 131 = 2 := by kernel_rfl
theorem cellsRec : Tryd.prog.cellsOf 52 = 8 := by kernel_rfl
theorem cellsIns : Tryd.prog.cellsOf 50 = 5 := by kernel_rfl
theorem cellsI : Tryd.prog.cellsOf 3 = 1 := by kernel_rfl
theorem cellsIs : Tryd.prog.cellsOf 46 = 1 := by kernel_rfl
theorem cellsMs : Tryd.prog.cellsOf 47 = 1 := by kernel_rfl
theorem cellsTs : Tryd.prog.cellsOf 48 = 1 := by kernel_rfl
theorem cellsS : Tryd.prog.cellsOf 9 = 1 := by kernel_rfl
theorem cellsB : Tryd.prog.cellsOf 4 = 1 := by kernel_rfl
set_option maxRecDepth 100000 in
theorem open_mem (m : Nat) (cs : List Value) (y : DataW H × List MemPlace) (h : DataW.trod enc Tryd.prog w base spare held m 81 cs = some y) : ∃ a, memR w w.heap.size cs a := by
  obtain ⟨xs, n, _, _, hl, hxl, hg⟩ := DataW.trod_struct Tryd.underlying81 h
  rw [cellsMem] at hl
  obtain ⟨c0, c1, rfl⟩ := list_two hl
  obtain ⟨y0, h0⟩ := trod_field hxl hg 0 _ rfl 3 0 1 rfl rfl cellsI
  obtain ⟨y1, h1⟩ := trod_field hxl hg 1 _ rfl 46 1 1 rfl rfl cellsIs
  obtain ⟨s, e0, -, -⟩ := DataW.trod_int Tryd.underlying3 (show DataW.trod enc Tryd.prog w base spare held n 3 [c0] = some y0 from h0)
  obtain ⟨v, l, e1, hl⟩ := open_list (R := intR) (size := 1) Tryd.underlying46 cellsI (by decide) (open_intE Tryd.underlying3) (show DataW.trod enc Tryd.prog w base spare held n 46 [c1] = some y1 from h1)
  cases e0
  cases e1
  exact ⟨(s, l), _, rfl, hl⟩
set_option maxRecDepth 100000 in
theorem open_tm (m : Nat) (cs : List Value) (y : DataW H × List MemPlace) (h : DataW.trod enc Tryd.prog w base spare held m 131 cs = some y) : ∃ a, tmR cs a := by
  obtain ⟨xs, n, _, _, hl, hxl, hg⟩ := DataW.trod_struct Tryd.underlying131 h
  rw [cellsTim] at hl
  obtain ⟨c0, c1, rfl⟩ := list_two hl
  obtain ⟨y0, h0⟩ := trod_field hxl hg 0 _ rfl 9 0 1 rfl rfl cellsS
  obtain ⟨y1, h1⟩ := trod_field hxl hg 1 _ rfl 3 1 1 rfl rfl cellsI
  obtain ⟨s, e0, -, hs⟩ := DataW.trod_string Tryd.underlying9 (show DataW.trod enc Tryd.prog w base spare held n 9 [c0] = some y0 from h0)
  obtain ⟨x, e1, -, -⟩ := DataW.trod_int Tryd.underlying3 (show DataW.trod enc Tryd.prog w base spare held n 3 [c1] = some y1 from h1)
  cases e0
  cases e1
  obtain ⟨⟨sl⟩⟩ := s
  exact ⟨(sl, x), rfl, by unfold maxLen at hs; simpa [ByteArray.size] using hs⟩
set_option maxRecDepth 100000 in
/-- A record by value. -/
theorem open_rec {r0 : Reach} {b0 : Nat} {v : Value} {d : DataW H} {p : List MemPlace} (hv : Value.okWide Tryd.prog w r0 b0 52 v) (h : DataW.Trod enc Tryd.prog w base spare held 52 v d p) :
    ∃ r va vv vm vt, v = .agg (recV r va vv vm vt) ∧ InAt w w.heap.size va vv vm vt r := by
  obtain ⟨cs, rfl, hsz⟩ := okWide_struct Tryd.underlying52 hv
  obtain ⟨l⟩ := cs
  rw [cellsRec] at hsz
  have hsz : l.length = 8 := hsz
  obtain ⟨c0, c1, c2, c3, c4, c5, c6, c7, rfl⟩ := list_eight hsz
  obtain ⟨fuel, hf⟩ := h
  obtain ⟨xs, n, _, _, _, hxl, hg⟩ := DataW.trod_struct Tryd.underlying52 hf
  obtain ⟨y0, h0⟩ := trod_field hxl hg 0 _ rfl 3 0 1 rfl rfl cellsI
  obtain ⟨y1, h1⟩ := trod_field hxl hg 1 _ rfl 3 1 1 rfl rfl cellsI
  obtain ⟨y2, h2⟩ := trod_field hxl hg 2 _ rfl 3 2 1 rfl rfl cellsI
  obtain ⟨y3, h3⟩ := trod_field hxl hg 3 _ rfl 50 3 5 rfl rfl cellsIns
  obtain ⟨x0, e0, -, -⟩ := DataW.trod_int Tryd.underlying3 (show DataW.trod enc Tryd.prog w base spare held n 3 [c0] = some y0 from h0)
  obtain ⟨x1, e1, -, -⟩ := DataW.trod_int Tryd.underlying3 (show DataW.trod enc Tryd.prog w base spare held n 3 [c1] = some y1 from h1)
  obtain ⟨x2, e2, -, -⟩ := DataW.trod_int Tryd.underlying3 (show DataW.trod enc Tryd.prog w base spare held n 3 [c2] = some y2 from h2)
  cases e0
  cases e1
  cases e2
  obtain ⟨zs, k, _, _, _, hzl, hgz⟩ := DataW.trod_struct Tryd.underlying50 (show DataW.trod enc Tryd.prog w base spare held n 50 [c3, c4, c5, c6, c7] = some y3 from h3)
  obtain ⟨z0, g0⟩ := trod_field hzl hgz 0 _ rfl 46 0 1 rfl rfl cellsIs
  obtain ⟨z1, g1⟩ := trod_field hzl hgz 1 _ rfl 46 1 1 rfl rfl cellsIs
  obtain ⟨z2, g2⟩ := trod_field hzl hgz 2 _ rfl 47 2 1 rfl rfl cellsMs
  obtain ⟨z3, g3⟩ := trod_field hzl hgz 3 _ rfl 48 3 1 rfl rfl cellsTs
  obtain ⟨z4, g4⟩ := trod_field hzl hgz 4 _ rfl 4 4 1 rfl rfl cellsB
  obtain ⟨va, ac, q0, ha⟩ := open_list (R := intR) (size := 1) Tryd.underlying46 cellsI (by decide) (open_intE Tryd.underlying3) (show DataW.trod enc Tryd.prog w base spare held k 46 [c3] = some z0 from g0)
  obtain ⟨vv, vs, q1, hvs⟩ := open_list (R := intR) (size := 1) Tryd.underlying46 cellsI (by decide) (open_intE Tryd.underlying3) (show DataW.trod enc Tryd.prog w base spare held k 46 [c4] = some z1 from g1)
  obtain ⟨vm, ms, q2, hms⟩ := open_list (R := memR w w.heap.size) (size := 2) Tryd.underlying47 cellsMem (by decide) open_mem (show DataW.trod enc Tryd.prog w base spare held k 47 [c5] = some z2 from g2)
  obtain ⟨vt, ts, q3, hts⟩ := open_list (R := tmR) (size := 2) Tryd.underlying48 cellsTim (by decide) open_tm (show DataW.trod enc Tryd.prog w base spare held k 48 [c6] = some z3 from g3)
  obtain ⟨ov, q4, -⟩ := DataW.trod_bool Tryd.underlying4 (show DataW.trod enc Tryd.prog w base spare held k 4 [c7] = some z4 from g4)
  cases q0
  cases q1
  cases q2
  cases q3
  cases q4
  exact ⟨⟨x0, x1, x2, ac, vs, ms, ts, ov⟩, _, _, _, _, rfl, ha, hvs, hms, hts⟩
end

theorem Tryd.tabArr : Tryd.prog.underlying 244 = some (.array 32 5) := by kernel_rfl
theorem cellsU8 : Tryd.prog.cellsOf 5 = 1 := by kernel_rfl
/-- The table, as the row lays it. -/
theorem tab_of {W : World} {g t : Nat} {cs : Array Value} {fuel : Nat} {p : List MemPlace} (hg : Tryd.prog.globalNamed "math/bits.deBruijn32tab" = some g) (ht : (Tryd.prog.globals[g]?).map (·.type) = some t) (hv : W.var? Tryd.prog "math/bits.deBruijn32tab" = some cs)
    (hd : DataW.trod (fun _ => ()) Tryd.prog W 0 (fun _ => true) false fuel t cs.toList = some (Rows.laid_math_bits_deBruijn32tab, p)) : TabAt W := by
  obtain rfl : 9 = g := Option.some.inj ((show Tryd.prog.globalNamed "math/bits.deBruijn32tab" = some 9 by kernel_rfl).symm.trans hg)
  obtain rfl : 244 = t := Option.some.inj ((show (Tryd.prog.globals[9]?).map (·.type) = some 244 by kernel_rfl).symm.trans ht)
  obtain ⟨xs, m, _, hx, _, hxl, hgx⟩ := DataW.trod_array Tryd.tabArr hd
  simp only [Prod.mk.injEq] at hx
  intro j hj
  have h1 := hgx j hj
  rw [cellsU8, Nat.mul_one] at h1
  have hjx : xs[j]? = some (xs[j]'(by omega)) := List.getElem?_eq_getElem _
  rw [hjx] at h1
  obtain ⟨nn, e1, e2, _⟩ := DataW.trod_int Tryd.underlying5 h1
  have hcell : cs[j]? = some (.int .u8 nn) := by
    have : ((cs.toList.drop j).take 1)[0]? = some (.int .u8 nn) := by rw [e1]; rfl
    rw [List.getElem?_take, if_pos (by omega), List.getElem?_drop, Nat.add_zero] at this
    simpa using this
  have hval : (Rows.laid_math_bits_deBruijn32tab : DataW Unit) = .agg (xs.map (·.1)) := hx.1
  have hlist : (xs.map (·.1))[j]? = (Lib.deBruijn32tab.map fun (k : Nat) => DataW.lit (H := Unit) (.int .u8 (k : Int)))[j]? := by
    have e : (Lib.deBruijn32tab.map fun (k : Nat) => DataW.lit (H := Unit) (.int .u8 (k : Int))) = xs.map (·.1) := by
      have : DataW.agg (Lib.deBruijn32tab.map fun (k : Nat) => DataW.lit (H := Unit) (.int .u8 (k : Int))) = DataW.agg (xs.map (·.1)) := by
        rw [← hval]
        rfl
      injection this
    rw [e]
  rw [List.getElem?_map, hjx, List.getElem?_map] at hlist
  have hdb : Lib.deBruijn32tab[j]? = some (Lib.deBruijn32tab.getD j 0) := by
    have : j < Lib.deBruijn32tab.length := by simpa [Lib.deBruijn32tab] using hj
    rw [List.getElem?_eq_getElem this, getD_get _ _ _ this]
  rw [hdb] at hlist
  simp only [Option.map_some, Option.some.injEq, e2] at hlist
  have hn : nn = ((Lib.deBruijn32tab.getD j 0 : Nat) : Int) := by
    have := hlist
    injection this with this
    injection this
  rw [World.var?_cell hg hv j, hcell, hn]
/-- From the laid list of the record's rows: ErrForm's sentinel and the table. -/
theorem laid_rec {W : World} (h : laidMetH Tryd.prog (("math/bits.deBruijn32tab", Rows.laid_math_bits_deBruijn32tab) :: ("scrinium/api.ErrForm", Rows.laid_scrinium_api_ErrForm) :: ("scrinium/api.ErrRange", Rows.laid_scrinium_api_ErrRange) :: ("scrinium/api.ErrLong", Rows.laid_scrinium_api_ErrLong) :: []) W) : ∃ aF, Sent W 0 aF ∧ TabAt W := by
  rw [MakeChecks.laidMetH_plain _ _ _ (by kernel_rfl)] at h
  obtain ⟨ps, hv, hnd, hrows⟩ := h
  obtain ⟨g0, t0, cs0, f0, p0, q0, hg0, ht0, hv0, hd0, hrest, rfl⟩ := hv
  have hT := tab_of hg0 ht0 hv0 hd0
  obtain ⟨adl, h1, h2, h3⟩ := laid_list (nm := "*errors.errorString") Tryd.underlying26 Tryd.row160 Tryd.underlying251 Tryd.underlying274 rfl rfl Tryd.underlying9 (by kernel_rfl) (by kernel_rfl)
    [("scrinium/api.ErrForm", [102, 111, 114, 109]), ("scrinium/api.ErrRange", [114, 97, 110, 103, 101]), ("scrinium/api.ErrLong", [108, 111, 110, 103])] [0, 3, 2] q0 hrest (by kernel_rfl) (by
      intro g hg
      simp at hg
      rcases hg with rfl | rfl | rfl <;> kernel_rfl) (fun b off hh => hrows b off (List.mem_append_right _ hh))
  match adl, h1 with
  | [a1, a2, a3], _ => exact ⟨a1, h2 0 _ _ rfl rfl, hT⟩
end Go.Proofs.YtbleibmjippmpaaDoor
