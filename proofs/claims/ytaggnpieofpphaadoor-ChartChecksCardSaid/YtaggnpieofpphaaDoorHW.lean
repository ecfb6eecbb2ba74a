/- The law ChartChecks: fault.Code, fault.Page, tells; walked. -/
import Derived.Test.YtaggnpieofpphaaDoorE4
import Derived.Test.YtaggnpieofpphaaDoorHE
import Derived.Test.YtaggnpieofpphaaDoorHV
set_option linter.unusedSimpArgs false
namespace Go.Proofs.YtaggnpieofpphaaDoor
open Go.RowKit Go.ChangeShapes
set_option maxRecDepth 100000
set_option maxHeartbeats 8000000
attribute [local go_sem_proc] reduceIte reduceCtorEq Nat.reduceAdd Nat.reduceSub Nat.reduceEqDiff Nat.reduceLT Nat.reduceLeDiff Nat.reduceMul Int.reduceToNat Int.reduceBEq Int.reduceBNe Int.reduceEq Int.reduceLT Int.reduceLE
attribute [local go_sem] resRd resOne resAll HoldF HoldR Takes thenA blockA ev_move ev_assign ev_pick ev_alloc ev_box ev_build ev_buildSlice ev_load ev_store ev_binOp ev_unOp ev_convert ev_iface ev_make ev_slice ev_fieldAddr ev_field ev_indexAddr ev_index ev_extract ev_len ev_append ev_min ev_max evMin evMax gt_tmp gt_int gt_bool gt_str gt_nilS gt_nilP gt_nilI pickRd allocRd buildRd sliceRd loadRd unRd ifaceRd exRd val optRd callRd seen AV.plain adopt fzArgs Rd.run AV.asCells newBox runL Comes' Rd.row Rd.bind Out.app apps Eff.app St.renew St.setRow St.show St.put St.init upd evStore evBin eqFs eqCell evConv evSeq evLen evIndexAddr evFieldAddr evField evIndex bound evSlice evAppend evMake loadOf fillAV fillEs fzParts fz fzCell fzCells shows isConstOp splice wrs wes Value.oneCell' List.getD_cons_zero List.getD_cons_succ List.getD_nil List.length_cons List.length_nil List.map_cons List.map_nil List.nil_append List.cons_append List.all_cons List.all_nil List.getElem?_cons_zero List.getElem?_cons_succ List.set_cons_zero List.set_cons_succ List.take_succ_cons List.take_zero List.drop_succ_cons List.drop_zero List.take_nil List.drop_nil List.replicate_succ List.replicate_zero Bool.and_true Bool.true_and Bool.and_self and_self true_and and_true Nat.zero_add Nat.add_zero Option.some.injEq Nat.zero_lt_succ Bool.not_true Bool.not_false ne_eq not_true_eq_false not_false_eq_true Option.map_some Option.map_none List.toList_toArray head headF headR List.length_map Int.toNat_natCast Int.natCast_nonneg List.getElem?_map decide_true decide_false Bool.false_eq_true if_true if_false Bool.or_self Bool.or_true Bool.true_or Bool.false_or Bool.or_false Bool.and_false Bool.false_and List.flatten_cons List.flatten_nil List.append_nil nat0 or_self or_false false_or or_true true_or and_false false_and List.length_append List.isEmpty_nil bne_self_eq_false beq_self_eq_true fits_small strL_l bytesOf_map wants Int.cast_ofNat_Int gt_iff_lt ge_iff_le
attribute [local go_sem ←] List.map_drop List.map_take

def nineEnv (ad : Nat → Addr) : Env := ⟨fun g => if g = 9 then some (.lit errT) else sentAt ad g, fun w => Sents w ad ∧ w.cell? ⟨9, 0, none⟩ = some errT, fun _ _ h hb => ⟨h.1.below hb, cell_below h.2 hb⟩⟩
theorem nineEnv_law (ad : Nat → Addr) : LawEnv (nineEnv ad) (ad 1) (ad 8) := ⟨⟨rfl, rfl⟩, rfl⟩
theorem nineEnv_ok {ad : Nat → Addr} {w : World} (h : Sents w ad) (ht : w.cell? ⟨9, 0, none⟩ = some errT) : EnvOk (nineEnv ad) (fun b _ => b < w.heap.size) w := by
  have h0 := errEnv_ok (mo := ⟨fun _ => True, fun _ _ _ _ => trivial⟩) h trivial
  refine ⟨⟨h, ht⟩, fun b o hb => hb, fun g c hg => ?_⟩
  have hg : (if g = 9 then some (.lit errT) else sentAt ad g) = some c := hg
  split at hg
  · rename_i e
    subst e
    cases hg
    exact ⟨_, ht, rfl, cell_lt ht, .lit _⟩
  · exact h0.env g c hg
theorem code9_con (ad : Nat → Addr) (k : Nat) (hk : 1 ≤ k ∧ k ≤ 9) (p : AV) : Con Tryd.prog (nineEnv ad) 52 [.iface 74 (.ref 3 [[.any, p, sentV (ad k)]] 0 0)] (I k) :=
  con_lit Tryd.call52 fun w S vs hE hl hv => by
    match vs, hl with
    | [v], _ =>
      have hS : Sents w ad := hE.inv.1
      refine (code_any hS k hk 1 v (err_at (hv 0 v _ rfl rfl) (sents_lies hS k hk))).mono ?_
      rintro e w' ⟨rfl, rfl⟩
      exact ⟨rfl, Below.refl _ _⟩
theorem code0_con (env : Env) : Con Tryd.prog env 52 [nilE] (I 0) :=
  con_lit Tryd.call52 fun w S vs hE hl hv => by
    match vs, hl with
    | [v], _ =>
      obtain rfl := (hv 0 v _ rfl rfl).lit_inv
      refine (code_nil w).mono ?_
      rintro e w' ⟨rfl, rfl⟩
      exact ⟨rfl, Below.refl _ _⟩
theorem page0_con (env : Env) : Con Tryd.prog env 19 [nilE] (I (-1)) :=
  con_lit Tryd.call19 fun w S vs hE hl hv => by
    match vs, hl with
    | [v], _ =>
      obtain rfl := (hv 0 v _ rfl rfl).lit_inv
      exact page_nil w
theorem pages_con (env : Env) (he : env 9 = some (.lit errT)) (p : Int) (h0 : -1 ≤ p) (a : Addr) : Con Tryd.prog env 19 [errV p (sentV a)] (I p) := by
  by_cases h : 0 ≤ p
  · exact page_con env he p h _
  obtain rfl : p = -1 := by omega
  refine con_lit Tryd.call19 fun w S vs hE hl hv => ?_
  match vs, hl with
  | [v], _ =>
    obtain ⟨u, h1, _, _, h4⟩ := hE.env _ _ he
    rw [h4.lit_inv] at h1
    have hr := hv 0 v _ rfl rfl
    cases hr with
    | iface t v c h =>
      cases h with
      | ref sz es i off b o u hz hc hrv =>
        have h2 := (hc 0 1 (I (-1)) rfl).2.1
        rw [(hrv 0 1 (I (-1)) rfl).lit_inv] at h2
        have h3 := (hc 0 2 (sentV a) rfl).2.1
        rw [(hrv 0 2 (sentV a) rfl).lit_inv] at h3
        have := page_neg b (o + (0 * 3 + 0)) (-1) a w (by simpa using h2) (by simpa using h3) (by omega) h1
        exact this
theorem tells0_con (env : Env) : Con Tryd.prog env 18 [nilE, I 0] (B true) := by
  have f1 := code0_con env
  refine con_of_body Tryd.func18 rfl Tryd.call18 (by rw [Tryd.ntmps18]; simp) ?_
  rw [Tryd.ntmps18, Tryd.results18]
  repeat (first | refine aops_op' rfl (by simp only [go_sem]; exact ⟨rfl, rfl⟩) ?_ | refine g_run ?_ | refine g_off ?_ | refine aops_call' rfl (f1) (by simp only [go_sem]; exact Is.rfl') (by simp only [go_sem]; exact ⟨rfl, rfl⟩) ?_ | refine aops_nil (d_end ?_) | refine aops_nil ?_ | refine awp_seq ?_ | refine g_text ?_ | refine g_draw Tryd.mixed ?_ | refine awp_block ?_ | refine awp_skip ?_ | (refine awp_exit ?_; simp only [thenA, blockA, ↓reduceIte, Nat.reduceEqDiff, reduceCtorEq]) | refine awp_yes' (by simp only [go_sem]; exact Is.rfl') ?_ | refine awp_no' (by simp only [go_sem]; exact Is.rfl') ?_)
  (refine awp_ret ?_; show (resRd _ _ _).run _ = some _; simp only [go_sem])
theorem tells9_con (ad : Nat → Addr) (k : Nat) (hk : 1 ≤ k ∧ k ≤ 9) (p : Int) : Con Tryd.prog (nineEnv ad) 18 [errV p (sentV (ad k)), I k] (B true) := by
  have f1 := code9_con ad k hk (I p)
  have h0 : ((k : Int) == 0) = false := ne_beq (by omega)
  refine con_of_body Tryd.func18 rfl Tryd.call18 (by rw [Tryd.ntmps18]; simp) ?_
  rw [Tryd.ntmps18, Tryd.results18]
  repeat (first | refine aops_op' rfl (by simp only [go_sem, h0]; exact ⟨rfl, rfl⟩) ?_ | refine g_run ?_ | refine g_off ?_ | refine aops_call' rfl (f1) (by simp only [go_sem, h0]; exact Is.rfl') (by simp only [go_sem, h0]; exact ⟨rfl, rfl⟩) ?_ | refine aops_nil (d_end ?_) | refine aops_nil ?_ | refine awp_seq ?_ | refine g_text ?_ | refine g_draw Tryd.mixed ?_ | refine awp_block ?_ | refine awp_skip ?_ | (refine awp_exit ?_; simp only [thenA, blockA, ↓reduceIte, Nat.reduceEqDiff, reduceCtorEq]) | refine awp_yes' (by simp only [go_sem, h0]; exact Is.rfl') ?_ | refine awp_no' (by simp only [go_sem, h0]; exact Is.rfl') ?_)
  (refine awp_ret ?_; show (resRd _ _ _).run _ = some _; simp only [go_sem, h0])
theorem chk_cases (c : ChD) : chk c = (0, -1) ∨ chk c = (8, -1) ∨ ∃ p, -1 ≤ p ∧ chk c = (1, p) := by
  unfold chk
  split
  · exact .inr (.inl rfl)
  split
  · exact .inr (.inr ⟨-1, by omega, rfl⟩)
  split
  · exact .inr (.inr ⟨_, by omega, rfl⟩)
  split
  · exact .inr (.inr ⟨_, by omega, rfl⟩)
  split
  · exact .inr (.inr ⟨-1, by omega, rfl⟩)
  split
  · exact .inr (.inr ⟨_, by omega, rfl⟩)
  · exact .inl rfl
theorem lawChecks_con (ad : Nat → Addr) (c : ChD) (hc : few_ch c) : Con Tryd.prog (nineEnv ad) 6 [.agg (chAV c)] (B true) := by
  have he := nineEnv_law ad
  have f1 := light24_con (nineEnv ad) c
  have f2 := pCheck_con (nineEnv ad) (ad 1) (ad 8) he.toChEnv c hc
  have f3 := awake_con (nineEnv ad) (ad 1) (ad 8) he
  have f4 := rCheck_con (nineEnv ad) c
  unfold chkT at f4
  refine con_of_body Tryd.func6 rfl Tryd.call6 (by rw [Tryd.ntmps6]; simp) ?_
  rw [Tryd.ntmps6, Tryd.results6]
  cases e1 : lightCB c
  · repeat (first | refine aops_op' rfl (by simp only [go_sem, e1]; exact ⟨rfl, rfl⟩) ?_ | refine g_run ?_ | refine g_off ?_ | refine aops_call' rfl (f1) (by simp only [go_sem, e1]; exact Is.rfl') (by simp only [go_sem, e1]; exact ⟨rfl, rfl⟩) ?_ | refine aops_call' rfl (f3) (by simp only [go_sem, e1]; exact Is.rfl') (by simp only [go_sem, e1]; exact ⟨rfl, rfl⟩) ?_ | refine aops_nil (d_end ?_) | refine aops_nil ?_ | refine awp_seq ?_ | refine g_text ?_ | refine g_draw Tryd.mixed ?_ | refine awp_block ?_ | refine awp_skip ?_ | (refine awp_exit ?_; simp only [thenA, blockA, ↓reduceIte, Nat.reduceEqDiff, reduceCtorEq]) | refine awp_yes' (by simp only [go_sem, e1]; exact Is.rfl') ?_ | refine awp_no' (by simp only [go_sem, e1]; exact Is.rfl') ?_)
    (refine awp_ret ?_; show (resRd _ _ _).run _ = some _; simp only [go_sem, e1])
  rcases chk_cases c with h | h | ⟨p, hp, h⟩
  · rw [chkAV_nil h] at f2
    rw [h] at f4
    have f5 := tells0_con (nineEnv ad)
    have f6 := page0_con (nineEnv ad)
    repeat (first | refine aops_op' rfl (by simp only [go_sem, e1]; exact ⟨rfl, rfl⟩) ?_ | refine g_run ?_ | refine g_off ?_ | refine aops_call' rfl (f1) (by simp only [go_sem, e1]; exact Is.rfl') (by simp only [go_sem, e1]; exact ⟨rfl, rfl⟩) ?_ | refine aops_call' rfl (f2) (by simp only [go_sem, e1]; exact Is.rfl') (by simp only [go_sem, e1]; exact ⟨rfl, rfl⟩) ?_ | refine aops_call' rfl (f3) (by simp only [go_sem, e1]; exact Is.rfl') (by simp only [go_sem, e1]; exact ⟨rfl, rfl⟩) ?_ | refine aops_call' rfl (f4) (by simp only [go_sem, e1]; exact Is.rfl') (by simp only [go_sem, e1]; exact ⟨rfl, rfl⟩) ?_ | refine aops_call' rfl (f5) (by simp only [go_sem, e1]; exact Is.rfl') (by simp only [go_sem, e1]; exact ⟨rfl, rfl⟩) ?_ | refine aops_call' rfl (f6) (by simp only [go_sem, e1]; exact Is.rfl') (by simp only [go_sem, e1]; exact ⟨rfl, rfl⟩) ?_ | refine aops_nil (d_end ?_) | refine aops_nil ?_ | refine awp_seq ?_ | refine g_text ?_ | refine g_draw Tryd.mixed ?_ | refine awp_block ?_ | refine awp_skip ?_ | (refine awp_exit ?_; simp only [thenA, blockA, ↓reduceIte, Nat.reduceEqDiff, reduceCtorEq]) | refine awp_yes' (by simp only [go_sem, e1]; exact Is.rfl') ?_ | refine awp_no' (by simp only [go_sem, e1]; exact Is.rfl') ?_)
    (refine awp_ret ?_; show (resRd _ _ _).run _ = some _; simp only [go_sem, e1])
  · rw [chkAV_long h] at f2
    rw [h] at f4
    have f5 := tells9_con ad 8 (by omega) (-1)
    have f6 := pages_con (nineEnv ad) he.et (-1) (by omega) (ad 8)
    repeat (first | refine aops_op' rfl (by simp only [go_sem, e1]; exact ⟨rfl, rfl⟩) ?_ | refine g_run ?_ | refine g_off ?_ | refine aops_call' rfl (f1) (by simp only [go_sem, e1]; exact Is.rfl') (by simp only [go_sem, e1]; exact ⟨rfl, rfl⟩) ?_ | refine aops_call' rfl (f2) (by simp only [go_sem, e1]; exact Is.rfl') (by simp only [go_sem, e1]; exact ⟨rfl, rfl⟩) ?_ | refine aops_call' rfl (f3) (by simp only [go_sem, e1]; exact Is.rfl') (by simp only [go_sem, e1]; exact ⟨rfl, rfl⟩) ?_ | refine aops_call' rfl (f4) (by simp only [go_sem, e1]; exact Is.rfl') (by simp only [go_sem, e1]; exact ⟨rfl, rfl⟩) ?_ | refine aops_call' rfl (f5) (by simp only [go_sem, e1]; exact Is.rfl') (by simp only [go_sem, e1]; exact ⟨rfl, rfl⟩) ?_ | refine aops_call' rfl (f6) (by simp only [go_sem, e1]; exact Is.rfl') (by simp only [go_sem, e1]; exact ⟨rfl, rfl⟩) ?_ | refine aops_nil (d_end ?_) | refine aops_nil ?_ | refine awp_seq ?_ | refine g_text ?_ | refine g_draw Tryd.mixed ?_ | refine awp_block ?_ | refine awp_skip ?_ | (refine awp_exit ?_; simp only [thenA, blockA, ↓reduceIte, Nat.reduceEqDiff, reduceCtorEq]) | refine awp_yes' (by simp only [go_sem, e1]; exact Is.rfl') ?_ | refine awp_no' (by simp only [go_sem, e1]; exact Is.rfl') ?_)
    (refine awp_ret ?_; show (resRd _ _ _).run _ = some _; simp only [go_sem, e1])
  · rw [chkAV_form h] at f2
    rw [h] at f4
    have f5 := tells9_con ad 1 (by omega) p
    have f6 := pages_con (nineEnv ad) he.et p hp (ad 1)
    repeat (first | refine aops_op' rfl (by simp only [go_sem, e1]; exact ⟨rfl, rfl⟩) ?_ | refine g_run ?_ | refine g_off ?_ | refine aops_call' rfl (f1) (by simp only [go_sem, e1]; exact Is.rfl') (by simp only [go_sem, e1]; exact ⟨rfl, rfl⟩) ?_ | refine aops_call' rfl (f2) (by simp only [go_sem, e1]; exact Is.rfl') (by simp only [go_sem, e1]; exact ⟨rfl, rfl⟩) ?_ | refine aops_call' rfl (f3) (by simp only [go_sem, e1]; exact Is.rfl') (by simp only [go_sem, e1]; exact ⟨rfl, rfl⟩) ?_ | refine aops_call' rfl (f4) (by simp only [go_sem, e1]; exact Is.rfl') (by simp only [go_sem, e1]; exact ⟨rfl, rfl⟩) ?_ | refine aops_call' rfl (f5) (by simp only [go_sem, e1]; exact Is.rfl') (by simp only [go_sem, e1]; exact ⟨rfl, rfl⟩) ?_ | refine aops_call' rfl (f6) (by simp only [go_sem, e1]; exact Is.rfl') (by simp only [go_sem, e1]; exact ⟨rfl, rfl⟩) ?_ | refine aops_nil (d_end ?_) | refine aops_nil ?_ | refine awp_seq ?_ | refine g_text ?_ | refine g_draw Tryd.mixed ?_ | refine awp_block ?_ | refine awp_skip ?_ | (refine awp_exit ?_; simp only [thenA, blockA, ↓reduceIte, Nat.reduceEqDiff, reduceCtorEq]) | refine awp_yes' (by simp only [go_sem, e1]; exact Is.rfl') ?_ | refine awp_no' (by simp only [go_sem, e1]; exact Is.rfl') ?_)
    (refine awp_ret ?_; show (resRd _ _ _).run _ = some _; simp only [go_sem, e1])
/-- From the laid list of the type's handle and all nine kinds. -/
theorem laid_chart9 {W : World} (h : laidMetH Tryd.prog [("errors.errorType", Rows.laid_errors_errorType), ("scrinium/api.ErrForm", Rows.laid_scrinium_api_ErrForm), ("scrinium/api.ErrRange", Rows.laid_scrinium_api_ErrRange), ("scrinium/api.ErrFull", Rows.laid_scrinium_api_ErrFull), ("scrinium/api.ErrNone", Rows.laid_scrinium_api_ErrNone), ("scrinium/api.ErrCorrupt", Rows.laid_scrinium_api_ErrCorrupt), ("scrinium/api.ErrFuel", Rows.laid_scrinium_api_ErrFuel), ("scrinium/api.ErrState", Rows.laid_scrinium_api_ErrState), ("scrinium/api.ErrLong", Rows.laid_scrinium_api_ErrLong), ("scrinium/api.ErrTwice", Rows.laid_scrinium_api_ErrTwice)] W) : (∃ ad, Sents W ad) ∧ W.cell? ⟨9, 0, none⟩ = some errT := by
  have h' : laidMet Tryd.prog [("scrinium/api.ErrForm", Rows.laid_scrinium_api_ErrForm), ("scrinium/api.ErrRange", Rows.laid_scrinium_api_ErrRange), ("scrinium/api.ErrFull", Rows.laid_scrinium_api_ErrFull), ("scrinium/api.ErrNone", Rows.laid_scrinium_api_ErrNone), ("scrinium/api.ErrCorrupt", Rows.laid_scrinium_api_ErrCorrupt), ("scrinium/api.ErrFuel", Rows.laid_scrinium_api_ErrFuel), ("scrinium/api.ErrState", Rows.laid_scrinium_api_ErrState), ("scrinium/api.ErrLong", Rows.laid_scrinium_api_ErrLong), ("scrinium/api.ErrTwice", Rows.laid_scrinium_api_ErrTwice)] W ∧ handlesMet Tryd.prog [("errors.errorType", Rows.laid_errors_errorType)] W := h
  have hT := handle_cell h'.2 (by simp)
  refine ⟨sents_of_nine ?_, hT⟩
  rw [MakeChecks.laidMetH_plain _ _ _ (by kernel_rfl)]
  exact h'.1
end Go.Proofs.YtaggnpieofpphaaDoor
