/- What the record's rows' lists of variables give: the nine sentinels, the table of math/bits. -/
import Derived.Test.YtbleibmjippmpaaDoorOpenRec
namespace Go.Proofs.YtbleibmjippmpaaDoor
open Go.RowKit Go.ChangeShapes

/-- From the laid list of the table and all nine kinds. -/
theorem laid_rec9 {W : World} (h : laidMetH Tryd.prog (("math/bits.deBruijn32tab", Rows.laid_math_bits_deBruijn32tab) :: [("scrinium/api.ErrForm", Rows.laid_scrinium_api_ErrForm), ("scrinium/api.ErrRange", Rows.laid_scrinium_api_ErrRange), ("scrinium/api.ErrFull", Rows.laid_scrinium_api_ErrFull), ("scrinium/api.ErrNone", Rows.laid_scrinium_api_ErrNone), ("scrinium/api.ErrCorrupt", Rows.laid_scrinium_api_ErrCorrupt), ("scrinium/api.ErrFuel", Rows.laid_scrinium_api_ErrFuel), ("scrinium/api.ErrState", Rows.laid_scrinium_api_ErrState), ("scrinium/api.ErrLong", Rows.laid_scrinium_api_ErrLong), ("scrinium/api.ErrTwice", Rows.laid_scrinium_api_ErrTwice)]) W) : ∃ ad, Sents W ad ∧ TabAt W := by
  rw [MakeChecks.laidMetH_plain _ _ _ (by kernel_rfl)] at h
  obtain ⟨ps0, hv0, hnd0, hrows0⟩ := h
  obtain ⟨g0, t0, cs0, f0, p0, ps, hg0, ht0, hw0, hd0, hv, rfl⟩ := hv0
  have hT := tab_of hg0 ht0 hw0 hd0
  have hnd := (List.nodup_append.1 hnd0).2.1
  have hrows := fun b off hh => hrows0 b off (List.mem_append_right _ hh)
  obtain ⟨adl, h1, h2, h3⟩ := laid_list (nm := "*errors.errorString") Tryd.underlying26 Tryd.row160 Tryd.underlying251 Tryd.underlying274 rfl rfl Tryd.underlying9 (by kernel_rfl) (by kernel_rfl)
    [("scrinium/api.ErrForm", [102, 111, 114, 109]), ("scrinium/api.ErrRange", [114, 97, 110, 103, 101]), ("scrinium/api.ErrFull", [102, 117, 108, 108]), ("scrinium/api.ErrNone", [110, 111, 110, 101]), ("scrinium/api.ErrCorrupt", [99, 111, 114, 114, 117, 112, 116]), ("scrinium/api.ErrFuel", [102, 117, 101, 108]), ("scrinium/api.ErrState", [115, 116, 97, 116, 101]), ("scrinium/api.ErrLong", [108, 111, 110, 103]), ("scrinium/api.ErrTwice", [116, 119, 105, 99, 101])] [0, 3, 5, 4, 6, 7, 1, 2, 8] ps hv (by kernel_rfl) (by
      intro g hg
      simp at hg
      rcases hg with rfl | rfl | rfl | rfl | rfl | rfl | rfl | rfl | rfl <;> kernel_rfl) hrows
  have hnd' := List.Nodup.sublist h3 hnd
  match adl, h1 with
  | [a1, a2, a3, a4, a5, a6, a7, a8, a9], _ =>
    refine ⟨fun i => [a1, a2, a3, a4, a5, a6, a7, a8, a9].getD (i - 1) a1, ⟨h2 0 _ _ rfl rfl, h2 1 _ _ rfl rfl, h2 2 _ _ rfl rfl, h2 3 _ _ rfl rfl, h2 4 _ _ rfl rfl, h2 5 _ _ rfl rfl, h2 6 _ _ rfl rfl, h2 7 _ _ rfl rfl, h2 8 _ _ rfl rfl, ?_⟩, hT⟩
    intro i j hi hi' hj hj' e
    have hinj : ∀ x y, x < 9 → y < 9 → [a1, a2, a3, a4, a5, a6, a7, a8, a9].getD x a1 = [a1, a2, a3, a4, a5, a6, a7, a8, a9].getD y a1 → x = y := by
      intro x y hx hy e
      generalize hl : [a1, a2, a3, a4, a5, a6, a7, a8, a9] = l at *
      have hlen : l.length = 9 := by rw [← hl]; rfl
      have ex : l.getD x a1 = l[x]'(by omega) := by simp [List.getD, List.getElem?_eq_getElem (show x < l.length by omega)]
      have ey : l.getD y a1 = l[y]'(by omega) := by simp [List.getD, List.getElem?_eq_getElem (show y < l.length by omega)]
      rw [ex, ey] at e
      have := (List.getElem_inj hnd' (i := x) (j := y) (h₀ := by simp; omega) (h₁ := by simp; omega)).1 (by simp only [List.getElem_map]; rw [e])
      exact this
    have := hinj (i - 1) (j - 1) (by omega) (by omega) e
    omega
end Go.Proofs.YtbleibmjippmpaaDoor
