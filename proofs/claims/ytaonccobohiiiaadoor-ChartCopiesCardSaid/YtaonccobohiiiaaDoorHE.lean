/- Charts' laws: what their variables hold; chart.Check, awake. -/
import Derived.Test.YtaonccobohiiiaaDoorHA
import Derived.Test.YtaonccobohiiiaaDoorHL
import Derived.Test.YtaonccobohiiiaaDoorLaid
import Derived.LaidHandle
namespace Go.Proofs.YtaonccobohiiiaaDoor
open Go.RowKit Go.ChangeShapes

/-- What a walk of charts leans on. -/
structure LawEnv (env : Env) (a1 a8 : Addr) : Prop extends ChEnv env a1 a8 where
  et : env 2 = some (.lit errT)
structure ChW (w : World) (a1 a8 : Addr) : Prop where
  s1 : Sent w 1 a1
  s8 : Sent w 0 a8
  et : w.cell? ⟨2, 0, none⟩ = some errT
def chAt (a1 a8 : Addr) (g : Nat) : Option AV :=
  if g = 1 then some (sentV a1) else
  if g = 0 then some (sentV a8) else
  if g = 2 then some (.lit errT) else none
def chEnv (a1 a8 : Addr) : Env := ⟨chAt a1 a8, fun w => ChW w a1 a8, fun _ _ h hb => ⟨h.s1.below hb, h.s8.below hb, cell_below h.et hb⟩⟩
theorem chEnv_law (a1 a8 : Addr) : LawEnv (chEnv a1 a8) a1 a8 := ⟨⟨rfl, rfl⟩, rfl⟩
theorem chEnv_ok {a1 a8 : Addr} {w : World} (h : ChW w a1 a8) : EnvOk (chEnv a1 a8) (fun b _ => b < w.heap.size) w := by
  refine ⟨h, fun b o hb => hb, fun g c hg => ?_⟩
  have hg : chAt a1 a8 g = some c := hg
  unfold chAt at hg
  split at hg
  · rename_i e; subst e; cases hg; exact ⟨_, h.s1.1, rfl, cell_lt h.s1.1, .lit _⟩
  split at hg
  · rename_i e; subst e; cases hg; exact ⟨_, h.s8.1, rfl, cell_lt h.s8.1, .lit _⟩
  split at hg
  · rename_i e; subst e; cases hg; exact ⟨_, h.et, rfl, cell_lt h.et, .lit _⟩
  cases hg

theorem Tryd.etName : Tryd.prog.globalNamed "errors.errorType" = some 2 := by kernel_rfl
theorem Tryd.rtRow : (Tryd.prog.cutTypes.find? (·.1 == "internal/reflectlite.rtype")).map (·.2) = some 105 := by kernel_rfl
theorem Tryd.errRow : ((List.range Tryd.prog.types.size).filter fun t => Tryd.prog.rowNamed t [101, 114, 114, 111, 114]) = [48] := by kernel_rfl
/-- What the handle's condition gives: the variable's one cell. -/
theorem handle_cell {W : World} {l : List (String × DataW Unit)} (h' : handlesMet Tryd.prog l W) (hm : ("errors.errorType", Rows.laid_errors_errorType) ∈ l) : W.cell? ⟨2, 0, none⟩ = some errT := by
  obtain ⟨name, u, ty, e1, e2, e3, e4, e5⟩ := h' _ hm
  have en : name = [101, 114, 114, 111, 114] := (Option.some.inj e1).symm
  subst en
  obtain rfl := Option.some.inj (Tryd.rtRow.symm.trans e2)
  have hm : ty ∈ (List.range Tryd.prog.types.size).filter fun t => Tryd.prog.rowNamed t [101, 114, 114, 111, 114] := List.mem_filter.2 ⟨List.mem_range.2 e3, e4⟩
  rw [Tryd.errRow] at hm
  obtain rfl := List.mem_singleton.1 hm
  have hh : typeHandle Tryd.prog 48 = .pointer (some ⟨3, 48, none⟩) := by kernel_rfl
  rw [hh] at e5
  simpa using World.var?_cell Tryd.etName e5 0
theorem laid_chart {W : World} (h : laidMetH Tryd.prog [("errors.errorType", Rows.laid_errors_errorType), ("scrinium/api.ErrForm", Rows.laid_scrinium_api_ErrForm), ("scrinium/api.ErrLong", Rows.laid_scrinium_api_ErrLong)] W) : ∃ a1 a8, ChW W a1 a8 := by
  have h' : laidMet Tryd.prog [("scrinium/api.ErrForm", Rows.laid_scrinium_api_ErrForm), ("scrinium/api.ErrLong", Rows.laid_scrinium_api_ErrLong)] W ∧ handlesMet Tryd.prog [("errors.errorType", Rows.laid_errors_errorType)] W := h
  have hT := handle_cell h'.2 (by simp)
  obtain ⟨ps, hv, hnd, hrows⟩ := h'.1
  obtain ⟨adl, h1, h2, h3⟩ := laid_list (nm := "*errors.errorString") Tryd.underlying48 Tryd.row160 Tryd.underlying143 Tryd.underlying164 rfl rfl Tryd.underlying9 (by kernel_rfl) (by kernel_rfl)
    [("scrinium/api.ErrForm", [102, 111, 114, 109]), ("scrinium/api.ErrLong", [108, 111, 110, 103])] [1, 0] ps hv (by kernel_rfl) (by
      intro g hg
      simp at hg
      rcases hg with rfl | rfl <;> kernel_rfl) hrows
  match adl, h1 with
  | [a1, a2], _ => exact ⟨a1, a2, h2 0 _ _ rfl rfl, h2 1 _ _ rfl rfl, hT⟩

theorem pCheck_con (env : Env) (a1 a8 : Addr) (he : ChEnv env a1 a8) (c : ChD) (hc : few_ch c) : Con Tryd.prog env 16 [.agg (chAV c)] (chkAV a1 a8 c) :=
  pCheck_by env a1 a8 he c hc (fun hn i v hv => pVar_con env c (by omega) i v hv (hc.2.1.2 v (List.mem_of_getElem? hv))) (fun hn i s hs => pState_con env a1 a8 he c (by omega) i s hs (hc.2.2.1.2 s (List.mem_of_getElem? hs))) (fun t ht => pTran_con env a1 a8 he c t (hc.2.2.2.2 t ht))
theorem small_few (k : Int) : few_ch (smallD k) := by simp [few_ch, few_st, smallD, maxLen]
theorem awake_con (env : Env) (a1 a8 : Addr) (he : LawEnv env a1 a8) : Con Tryd.prog env 6 [] (B true) := by
  refine awake_by env a1 ?_ ?_ (page_con env he.et 0 (by omega) _) ?_
  · have := pCheck_con env a1 a8 he.toChEnv (smallD 1) (small_few 1)
    rwa [chkAV_nil (show chk (smallD 1) = (0, -1) by decide +kernel)] at this
  · have := pCheck_con env a1 a8 he.toChEnv (smallD (-1)) (small_few (-1))
    rwa [chkAV_form (show chk (smallD (-1)) = (1, 0) by decide +kernel)] at this
  · have := pFind_con env (smallD 1) [98] (by decide)
    rwa [show findI (smallD 1) [98] = 1 by decide +kernel] at this
end Go.Proofs.YtaonccobohiiiaaDoor
