/- Contracts of expressions' checks, of numbers among numbers: by the walk without memory. -/
import Derived.Test.YtaggnpieofpphaaDoorH2
import Derived.Test.YtaggnpieofpphaaDoorHS
set_option linter.unusedSimpArgs false
namespace Go.Proofs.YtaggnpieofpphaaDoor
open Go.RowKit
set_option maxRecDepth 100000
set_option maxHeartbeats 1000000
attribute [local go_sem_proc] reduceIte reduceCtorEq Nat.reduceAdd Nat.reduceSub Nat.reduceEqDiff Nat.reduceLT Nat.reduceLeDiff Nat.reduceMul Int.reduceToNat Int.reduceBEq Int.reduceBNe Int.reduceEq Int.reduceLT Int.reduceLE
attribute [local go_sem] resRd resOne resAll HoldF HoldR Takes thenA blockA ev_move ev_assign ev_pick ev_alloc ev_box ev_build ev_buildSlice ev_load ev_store ev_binOp ev_unOp ev_convert ev_iface ev_make ev_slice ev_fieldAddr ev_field ev_indexAddr ev_index ev_extract ev_len ev_append ev_min ev_max evMin evMax gt_tmp gt_int gt_bool gt_str gt_nilS gt_nilP gt_nilI pickRd allocRd buildRd sliceRd loadRd unRd ifaceRd exRd val optRd callRd seen AV.plain adopt fzArgs Rd.run AV.asCells newBox runL Comes' Rd.row Rd.bind Out.app apps Eff.app St.renew St.setRow St.show St.put St.init upd evStore evBin eqFs eqCell evConv evSeq evLen evIndexAddr evFieldAddr evField evIndex bound evSlice evAppend evMake loadOf fillAV fillEs fzParts fz fzCell fzCells shows isConstOp splice wrs wes Value.oneCell' List.getD_cons_zero List.getD_cons_succ List.getD_nil List.length_cons List.length_nil List.map_cons List.map_nil List.nil_append List.cons_append List.all_cons List.all_nil List.getElem?_cons_zero List.getElem?_cons_succ List.set_cons_zero List.set_cons_succ List.take_succ_cons List.take_zero List.drop_succ_cons List.drop_zero List.take_nil List.drop_nil List.replicate_succ List.replicate_zero Bool.and_true Bool.true_and Bool.and_self and_self true_and and_true Nat.zero_add Nat.add_zero Option.some.injEq Nat.zero_lt_succ Bool.not_true Bool.not_false ne_eq not_true_eq_false not_false_eq_true Option.map_some Option.map_none List.toList_toArray head headF headR List.length_map Int.toNat_natCast Int.natCast_nonneg List.getElem?_map decide_true decide_false Bool.false_eq_true if_true if_false Bool.or_self Bool.or_true Bool.true_or Bool.false_or Bool.or_false Bool.and_false Bool.false_and List.flatten_cons List.flatten_nil List.append_nil nat0 or_self or_false false_or or_true true_or and_false false_and List.length_append List.isEmpty_nil bne_self_eq_false beq_self_eq_true fits_small strL_l bytesOf_map wants Int.cast_ofNat_Int gt_iff_lt ge_iff_le
attribute [local go_sem ←] List.map_drop List.map_take

/-- What variables hold: the kinds of errors that charts know. -/
structure ChEnv (env : Env) (a1 a8 : Addr) : Prop where
  e1 : env 1 = some (sentV a1)
  e8 : env 0 = some (sentV a8)
def exprAV (a1 a8 : Addr) (l : List OpD) (vs ss : Int) : AV := if codeC l vs ss = 0 then nilE else if codeC l vs ss = 8 then errV (-1) (sentV a8) else errV (-1) (sentV a1)
theorem codeC_long {l : List OpD} (vs ss : Int) (h : 32 < l.length) : codeC l vs ss = 8 := by unfold codeC; rw [if_pos h]
theorem codeC_yes {l : List OpD} {vs ss : Int} (h : ¬ 32 < l.length) (hh : hgt vs ss l 0 = some 1) : codeC l vs ss = 0 := by unfold codeC; rw [if_neg h, if_pos hh]
theorem codeC_no {l : List OpD} {vs ss : Int} (h : ¬ 32 < l.length) (hh : hgt vs ss l 0 ≠ some 1) : codeC l vs ss = 1 := by unfold codeC; rw [if_neg h, if_neg hh]
theorem stepOk_is {vs ss n : Int} {o : OpD} (h : stepOk vs ss n o = true) : ¬ operandsI o.kind < 0 ∧ ¬ n < operandsI o.kind ∧ numB o vs ss = true := by
  simp only [stepOk, Bool.and_eq_true, decide_eq_true_eq] at h
  exact ⟨by omega, by omega, h.2⟩
theorem stepOk_not {vs ss n : Int} {o : OpD} (h : stepOk vs ss n o = false) : operandsI o.kind < 0 ∨ (¬ operandsI o.kind < 0 ∧ n < operandsI o.kind) ∨ (¬ operandsI o.kind < 0 ∧ ¬ n < operandsI o.kind ∧ numB o vs ss = false) := by
  by_cases a : operandsI o.kind < 0
  · exact .inl a
  by_cases b : n < operandsI o.kind
  · exact .inr (.inl ⟨a, b⟩)
  refine .inr (.inr ⟨a, b, ?_⟩)
  have e1 : 0 ≤ operandsI o.kind := by omega
  have e2 : operandsI o.kind ≤ n := by omega
  simpa [stepOk, e1, e2] using h
theorem pExprCheck_con (env : Env) (a1 a8 : Addr) (he : ChEnv env a1 a8) (l : List OpD) (vs ss : Int) : Con Tryd.prog env 94 [opsAV l, I vs, I ss] (exprAV a1 a8 l vs ss) := by
  have g1 := gt_at he.e1
  have g8 := gt_at he.e8
  refine con_of_body Tryd.func94 rfl Tryd.call94 (by rw [Tryd.ntmps94]; simp) ?_
  rw [Tryd.ntmps94, Tryd.results94]
  by_cases hl : 32 < l.length
  · have hL : (32 : Int) < l.length := by omega
    rw [show exprAV a1 a8 l vs ss = errV (-1) (sentV a8) by unfold exprAV; rw [codeC_long vs ss hl]; rfl]
    repeat (first | refine aops_op' rfl (by simp only [go_sem, hL, g8]; exact ⟨rfl, rfl⟩) ?_ | refine g_run ?_ | refine g_off ?_ | refine aops_call' rfl (new_con env _ a8) (by simp only [go_sem, hL, g8]; exact Is.rfl') (by simp only [go_sem, hL, g8]; exact ⟨rfl, rfl⟩) ?_ | refine aops_nil (d_end ?_) | refine aops_nil ?_ | refine awp_seq ?_ | refine g_text ?_ | refine g_draw Tryd.mixed ?_ | refine awp_block ?_ | refine awp_skip ?_ | (refine awp_exit ?_; simp only [thenA, blockA, ↓reduceIte, Nat.reduceEqDiff, reduceCtorEq]) | refine awp_yes' (by simp only [go_sem, hL, g8]; exact Is.rfl') ?_ | refine awp_no' (by simp only [go_sem, hL, g8]; exact Is.rfl') ?_)
    (refine awp_ret ?_; show (resRd _ _ _).run _ = some _; simp only [go_sem, hL, g8])
  have hL : ¬ (32 : Int) < l.length := by omega
  repeat (first | refine aops_op' rfl (by simp only [go_sem, hL]; exact ⟨rfl, rfl⟩) ?_ | refine g_run ?_ | refine g_off ?_ | refine aops_nil (d_end ?_) | refine aops_nil ?_ | refine awp_seq ?_ | refine g_text ?_ | refine g_draw Tryd.mixed ?_ | refine awp_block ?_ | refine awp_skip ?_ | (refine awp_exit ?_; simp only [thenA, blockA, ↓reduceIte, Nat.reduceEqDiff, reduceCtorEq]) | refine awp_yes' (by simp only [go_sem, hL]; exact Is.rfl') ?_ | refine awp_no' (by simp only [go_sem, hL]; exact Is.rfl') ?_)
  refine awp_loopH (D := Nat × Int) (fun d _ => [(1, I vs), (2, I ss), (7, I d.2), (16, opsAV l), (17, I l.length), (18, I d.1)]) (fun _ _ => []) (fun d _ _ => d.1 ≤ l.length ∧ hgt vs ss l 0 = hgt vs ss (l.drop d.1) d.2 ∧ 0 ≤ d.2 ∧ d.2 ≤ d.1) (fun d => l.length - d.1) (0, 0) ?_ ?_ ?_ ?_
  · exact ⟨Nat.zero_le _, rfl, Int.le_refl _, Int.le_refl _⟩
  · (simp only [go_sem, hL])
  · (simp only [go_sem, hL])
  rintro ⟨i, n⟩ ws esc ⟨hi, hh, h0, hn⟩
  simp only at hi hh h0 hn
  by_cases hlt : i < l.length
  · obtain ⟨o, ho, _⟩ := some_at hlt
    obtain ⟨up, no⟩ := hgt_step ho hh
    have k1 := nlt hlt
    have k2 := wrap_succ hlt (by omega)
    have hop := operandsI_in o.kind
    cases hok : stepOk vs ss n o with
    | true =>
      obtain ⟨b1, b2, b3⟩ := stepOk_is hok
      have w1 : IntKind.i64.wrap (1 - operandsI o.kind) = 1 - operandsI o.kind := wrap_in (by omega) (by omega)
      have w2 : IntKind.i64.wrap (n + (1 - operandsI o.kind)) = n + (1 - operandsI o.kind) := wrap_in (by omega) (by omega)
      repeat (first | refine aops_op' rfl (by simp only [go_sem, k1, k2, ho, opAV, b1, b2, b3, w1, w2]; exact ⟨rfl, rfl⟩) ?_ | refine g_run ?_ | refine g_off ?_ | refine aops_call' rfl (pOperands_con env o.kind) (by simp only [go_sem, k1, k2, ho, opAV, b1, b2, b3, w1, w2]; exact Is.rfl') (by simp only [go_sem, k1, k2, ho, opAV, b1, b2, b3, w1, w2]; exact ⟨rfl, rfl⟩) ?_ | refine aops_call' rfl (pNumber_con env o vs ss) (by simp only [go_sem, k1, k2, ho, opAV, b1, b2, b3, w1, w2]; exact Is.rfl') (by simp only [go_sem, k1, k2, ho, opAV, b1, b2, b3, w1, w2]; exact ⟨rfl, rfl⟩) ?_ | refine aops_nil (d_end ?_) | refine aops_nil ?_ | refine awp_seq ?_ | refine g_text ?_ | refine g_draw Tryd.mixed ?_ | refine awp_block ?_ | refine awp_skip ?_ | (refine awp_exit ?_; simp only [thenA, blockA, ↓reduceIte, Nat.reduceEqDiff, reduceCtorEq]) | refine awp_yes' (by simp only [go_sem, k1, k2, ho, opAV, b1, b2, b3, w1, w2]; exact Is.rfl') ?_ | refine awp_no' (by simp only [go_sem, k1, k2, ho, opAV, b1, b2, b3, w1, w2]; exact Is.rfl') ?_)
      refine ⟨(i + 1, n + (1 - operandsI o.kind)), ⟨by simp only; omega, ?_, by simp only; omega, by simp only; omega⟩, ?_, ?_, ?_⟩
      · simp only
        rw [up hok]
        congr 1
        omega
      · (simp only [go_sem, k1, k2, ho, opAV, b1, b2, b3, w1, w2])
      · (simp only [go_sem, k1, k2, ho, opAV, b1, b2, b3, w1, w2])
      · simp only; omega
    | false =>
      rw [show exprAV a1 a8 l vs ss = errV (-1) (sentV a1) by unfold exprAV; rw [codeC_no hl (by rw [no hok]; simp)]; rfl]
      rcases stepOk_not hok with b1 | ⟨b1, b2⟩ | ⟨b1, b2, b3⟩
      · repeat (first | refine aops_op' rfl (by simp only [go_sem, k1, k2, ho, opAV, b1, g1]; exact ⟨rfl, rfl⟩) ?_ | refine g_run ?_ | refine g_off ?_ | refine aops_call' rfl (pOperands_con env o.kind) (by simp only [go_sem, k1, k2, ho, opAV, b1, g1]; exact Is.rfl') (by simp only [go_sem, k1, k2, ho, opAV, b1, g1]; exact ⟨rfl, rfl⟩) ?_ | refine aops_call' rfl (pNumber_con env o vs ss) (by simp only [go_sem, k1, k2, ho, opAV, b1, g1]; exact Is.rfl') (by simp only [go_sem, k1, k2, ho, opAV, b1, g1]; exact ⟨rfl, rfl⟩) ?_ | refine aops_call' rfl (new_con env _ a1) (by simp only [go_sem, k1, k2, ho, opAV, b1, g1]; exact Is.rfl') (by simp only [go_sem, k1, k2, ho, opAV, b1, g1]; exact ⟨rfl, rfl⟩) ?_ | refine aops_nil (d_end ?_) | refine aops_nil ?_ | refine awp_seq ?_ | refine g_text ?_ | refine g_draw Tryd.mixed ?_ | refine awp_block ?_ | refine awp_skip ?_ | (refine awp_exit ?_; simp only [thenA, blockA, ↓reduceIte, Nat.reduceEqDiff, reduceCtorEq]) | refine awp_yes' (by simp only [go_sem, k1, k2, ho, opAV, b1, g1]; exact Is.rfl') ?_ | refine awp_no' (by simp only [go_sem, k1, k2, ho, opAV, b1, g1]; exact Is.rfl') ?_)
        (refine awp_ret ?_; show (resRd _ _ _).run _ = some _; simp only [go_sem, k1, k2, ho, opAV, b1, g1])
      · repeat (first | refine aops_op' rfl (by simp only [go_sem, k1, k2, ho, opAV, b1, b2, g1]; exact ⟨rfl, rfl⟩) ?_ | refine g_run ?_ | refine g_off ?_ | refine aops_call' rfl (pOperands_con env o.kind) (by simp only [go_sem, k1, k2, ho, opAV, b1, b2, g1]; exact Is.rfl') (by simp only [go_sem, k1, k2, ho, opAV, b1, b2, g1]; exact ⟨rfl, rfl⟩) ?_ | refine aops_call' rfl (pNumber_con env o vs ss) (by simp only [go_sem, k1, k2, ho, opAV, b1, b2, g1]; exact Is.rfl') (by simp only [go_sem, k1, k2, ho, opAV, b1, b2, g1]; exact ⟨rfl, rfl⟩) ?_ | refine aops_call' rfl (new_con env _ a1) (by simp only [go_sem, k1, k2, ho, opAV, b1, b2, g1]; exact Is.rfl') (by simp only [go_sem, k1, k2, ho, opAV, b1, b2, g1]; exact ⟨rfl, rfl⟩) ?_ | refine aops_nil (d_end ?_) | refine aops_nil ?_ | refine awp_seq ?_ | refine g_text ?_ | refine g_draw Tryd.mixed ?_ | refine awp_block ?_ | refine awp_skip ?_ | (refine awp_exit ?_; simp only [thenA, blockA, ↓reduceIte, Nat.reduceEqDiff, reduceCtorEq]) | refine awp_yes' (by simp only [go_sem, k1, k2, ho, opAV, b1, b2, g1]; exact Is.rfl') ?_ | refine awp_no' (by simp only [go_sem, k1, k2, ho, opAV, b1, b2, g1]; exact Is.rfl') ?_)
        (refine awp_ret ?_; show (resRd _ _ _).run _ = some _; simp only [go_sem, k1, k2, ho, opAV, b1, b2, g1])
      · repeat (first | refine aops_op' rfl (by simp only [go_sem, k1, k2, ho, opAV, b1, b2, b3, g1]; exact ⟨rfl, rfl⟩) ?_ | refine g_run ?_ | refine g_off ?_ | refine aops_call' rfl (pOperands_con env o.kind) (by simp only [go_sem, k1, k2, ho, opAV, b1, b2, b3, g1]; exact Is.rfl') (by simp only [go_sem, k1, k2, ho, opAV, b1, b2, b3, g1]; exact ⟨rfl, rfl⟩) ?_ | refine aops_call' rfl (pNumber_con env o vs ss) (by simp only [go_sem, k1, k2, ho, opAV, b1, b2, b3, g1]; exact Is.rfl') (by simp only [go_sem, k1, k2, ho, opAV, b1, b2, b3, g1]; exact ⟨rfl, rfl⟩) ?_ | refine aops_call' rfl (new_con env _ a1) (by simp only [go_sem, k1, k2, ho, opAV, b1, b2, b3, g1]; exact Is.rfl') (by simp only [go_sem, k1, k2, ho, opAV, b1, b2, b3, g1]; exact ⟨rfl, rfl⟩) ?_ | refine aops_nil (d_end ?_) | refine aops_nil ?_ | refine awp_seq ?_ | refine g_text ?_ | refine g_draw Tryd.mixed ?_ | refine awp_block ?_ | refine awp_skip ?_ | (refine awp_exit ?_; simp only [thenA, blockA, ↓reduceIte, Nat.reduceEqDiff, reduceCtorEq]) | refine awp_yes' (by simp only [go_sem, k1, k2, ho, opAV, b1, b2, b3, g1]; exact Is.rfl') ?_ | refine awp_no' (by simp only [go_sem, k1, k2, ho, opAV, b1, b2, b3, g1]; exact Is.rfl') ?_)
        (refine awp_ret ?_; show (resRd _ _ _).run _ = some _; simp only [go_sem, k1, k2, ho, opAV, b1, b2, b3, g1])
  · have k1 : ¬ (i : Int) < (l.length : Int) := by omega
    have hend := hgt_end (by omega) hh
    by_cases h1 : n = 1
    · subst h1
      rw [show exprAV a1 a8 l vs ss = nilE by unfold exprAV; rw [codeC_yes hl hend]; rfl]
      repeat (first | refine aops_op' rfl (by simp only [go_sem, k1, g1]; exact ⟨rfl, rfl⟩) ?_ | refine g_run ?_ | refine g_off ?_ | refine aops_call' rfl (new_con env _ a1) (by simp only [go_sem, k1, g1]; exact Is.rfl') (by simp only [go_sem, k1, g1]; exact ⟨rfl, rfl⟩) ?_ | refine aops_nil (d_end ?_) | refine aops_nil ?_ | refine awp_seq ?_ | refine g_text ?_ | refine g_draw Tryd.mixed ?_ | refine awp_block ?_ | refine awp_skip ?_ | (refine awp_exit ?_; simp only [thenA, blockA, ↓reduceIte, Nat.reduceEqDiff, reduceCtorEq]) | refine awp_yes' (by simp only [go_sem, k1, g1]; exact Is.rfl') ?_ | refine awp_no' (by simp only [go_sem, k1, g1]; exact Is.rfl') ?_)
      (refine awp_ret ?_; show (resRd _ _ _).run _ = some _; simp only [go_sem, k1, g1])
    · rw [show exprAV a1 a8 l vs ss = errV (-1) (sentV a1) by unfold exprAV; rw [codeC_no hl (by rw [hend]; simpa using h1)]; rfl]
      have k2 : (n != 1) = true := by simpa using h1
      repeat (first | refine aops_op' rfl (by simp only [go_sem, k1, k2, g1]; exact ⟨rfl, rfl⟩) ?_ | refine g_run ?_ | refine g_off ?_ | refine aops_call' rfl (new_con env _ a1) (by simp only [go_sem, k1, k2, g1]; exact Is.rfl') (by simp only [go_sem, k1, k2, g1]; exact ⟨rfl, rfl⟩) ?_ | refine aops_nil (d_end ?_) | refine aops_nil ?_ | refine awp_seq ?_ | refine g_text ?_ | refine g_draw Tryd.mixed ?_ | refine awp_block ?_ | refine awp_skip ?_ | (refine awp_exit ?_; simp only [thenA, blockA, ↓reduceIte, Nat.reduceEqDiff, reduceCtorEq]) | refine awp_yes' (by simp only [go_sem, k1, k2, g1]; exact Is.rfl') ?_ | refine awp_no' (by simp only [go_sem, k1, k2, g1]; exact Is.rfl') ?_)
      (refine awp_ret ?_; show (resRd _ _ _).run _ = some _; simp only [go_sem, k1, k2, g1])
theorem rExprCheck_con (env : Env) (l : List OpD) (vs ss : Int) : Con Tryd.prog env 96 [opsAV l, I vs, I ss] (I (codeC l vs ss)) := by
  refine con_of_body Tryd.func96 rfl Tryd.call96 (by rw [Tryd.ntmps96]; simp) ?_
  rw [Tryd.ntmps96, Tryd.results96]
  by_cases hl : 32 < l.length
  · have hL : (32 : Int) < l.length := by omega
    rw [codeC_long vs ss hl]
    repeat (first | refine aops_op' rfl (by simp only [go_sem, hL]; exact ⟨rfl, rfl⟩) ?_ | refine g_run ?_ | refine g_off ?_ | refine aops_nil (d_end ?_) | refine aops_nil ?_ | refine awp_seq ?_ | refine g_text ?_ | refine g_draw Tryd.mixed ?_ | refine awp_block ?_ | refine awp_skip ?_ | (refine awp_exit ?_; simp only [thenA, blockA, ↓reduceIte, Nat.reduceEqDiff, reduceCtorEq]) | refine awp_yes' (by simp only [go_sem, hL]; exact Is.rfl') ?_ | refine awp_no' (by simp only [go_sem, hL]; exact Is.rfl') ?_)
    (refine awp_ret ?_; show (resRd _ _ _).run _ = some _; simp only [go_sem, hL])
  have hL : ¬ (32 : Int) < l.length := by omega
  repeat (first | refine aops_op' rfl (by simp only [go_sem, hL]; exact ⟨rfl, rfl⟩) ?_ | refine g_run ?_ | refine g_off ?_ | refine aops_nil (d_end ?_) | refine aops_nil ?_ | refine awp_seq ?_ | refine g_text ?_ | refine g_draw Tryd.mixed ?_ | refine awp_block ?_ | refine awp_skip ?_ | (refine awp_exit ?_; simp only [thenA, blockA, ↓reduceIte, Nat.reduceEqDiff, reduceCtorEq]) | refine awp_yes' (by simp only [go_sem, hL]; exact Is.rfl') ?_ | refine awp_no' (by simp only [go_sem, hL]; exact Is.rfl') ?_)
  refine awp_loopH (D := Nat × Int) (fun d _ => [(0, opsAV l), (1, I vs), (2, I ss), (7, I d.2), (8, I d.1)]) (fun _ _ => []) (fun d _ _ => d.1 ≤ l.length ∧ hgt vs ss l 0 = hgt vs ss (l.drop d.1) d.2 ∧ 0 ≤ d.2 ∧ d.2 ≤ d.1) (fun d => l.length - d.1) (0, 0) ?_ ?_ ?_ ?_
  · exact ⟨Nat.zero_le _, rfl, Int.le_refl _, Int.le_refl _⟩
  · (simp only [go_sem, hL])
  · (simp only [go_sem, hL])
  rintro ⟨i, n⟩ ws esc ⟨hi, hh, h0, hn⟩
  simp only at hi hh h0 hn
  by_cases hlt : i < l.length
  · obtain ⟨o, ho, _⟩ := some_at hlt
    obtain ⟨up, no⟩ := hgt_step ho hh
    have k1 := nlt hlt
    have k2 := wrap_succ hlt (by omega)
    have hop := operandsI_in o.kind
    cases hok : stepOk vs ss n o with
    | true =>
      obtain ⟨b1, b2, b3⟩ := stepOk_is hok
      have w1 : IntKind.i64.wrap (n - operandsI o.kind) = n - operandsI o.kind := wrap_in (by omega) (by omega)
      have w2 : IntKind.i64.wrap (n - operandsI o.kind + 1) = n - operandsI o.kind + 1 := wrap_in (by omega) (by omega)
      repeat (first | refine aops_op' rfl (by simp only [go_sem, k1, k2, ho, opAV, b1, b2, b3, w1, w2]; exact ⟨rfl, rfl⟩) ?_ | refine g_run ?_ | refine g_off ?_ | refine aops_call' rfl (rOperands_con env o.kind) (by simp only [go_sem, k1, k2, ho, opAV, b1, b2, b3, w1, w2]; exact Is.rfl') (by simp only [go_sem, k1, k2, ho, opAV, b1, b2, b3, w1, w2]; exact ⟨rfl, rfl⟩) ?_ | refine aops_call' rfl (rNumber_con env o vs ss) (by simp only [go_sem, k1, k2, ho, opAV, b1, b2, b3, w1, w2]; exact Is.rfl') (by simp only [go_sem, k1, k2, ho, opAV, b1, b2, b3, w1, w2]; exact ⟨rfl, rfl⟩) ?_ | refine aops_nil (d_end ?_) | refine aops_nil ?_ | refine awp_seq ?_ | refine g_text ?_ | refine g_draw Tryd.mixed ?_ | refine awp_block ?_ | refine awp_skip ?_ | (refine awp_exit ?_; simp only [thenA, blockA, ↓reduceIte, Nat.reduceEqDiff, reduceCtorEq]) | refine awp_yes' (by simp only [go_sem, k1, k2, ho, opAV, b1, b2, b3, w1, w2]; exact Is.rfl') ?_ | refine awp_no' (by simp only [go_sem, k1, k2, ho, opAV, b1, b2, b3, w1, w2]; exact Is.rfl') ?_)
      refine ⟨(i + 1, n - operandsI o.kind + 1), ⟨by simp only; omega, up hok, by simp only; omega, by simp only; omega⟩, ?_, ?_, ?_⟩
      · (simp only [go_sem, k1, k2, ho, opAV, b1, b2, b3, w1, w2])
      · (simp only [go_sem, k1, k2, ho, opAV, b1, b2, b3, w1, w2])
      · simp only; omega
    | false =>
      rw [codeC_no hl (by rw [no hok]; simp)]
      rcases stepOk_not hok with b1 | ⟨b1, b2⟩ | ⟨b1, b2, b3⟩
      · repeat (first | refine aops_op' rfl (by simp only [go_sem, k1, k2, ho, opAV, b1]; exact ⟨rfl, rfl⟩) ?_ | refine g_run ?_ | refine g_off ?_ | refine aops_call' rfl (rOperands_con env o.kind) (by simp only [go_sem, k1, k2, ho, opAV, b1]; exact Is.rfl') (by simp only [go_sem, k1, k2, ho, opAV, b1]; exact ⟨rfl, rfl⟩) ?_ | refine aops_call' rfl (rNumber_con env o vs ss) (by simp only [go_sem, k1, k2, ho, opAV, b1]; exact Is.rfl') (by simp only [go_sem, k1, k2, ho, opAV, b1]; exact ⟨rfl, rfl⟩) ?_ | refine aops_nil (d_end ?_) | refine aops_nil ?_ | refine awp_seq ?_ | refine g_text ?_ | refine g_draw Tryd.mixed ?_ | refine awp_block ?_ | refine awp_skip ?_ | (refine awp_exit ?_; simp only [thenA, blockA, ↓reduceIte, Nat.reduceEqDiff, reduceCtorEq]) | refine awp_yes' (by simp only [go_sem, k1, k2, ho, opAV, b1]; exact Is.rfl') ?_ | refine awp_no' (by simp only [go_sem, k1, k2, ho, opAV, b1]; exact Is.rfl') ?_)
        (refine awp_ret ?_; show (resRd _ _ _).run _ = some _; simp only [go_sem, k1, k2, ho, opAV, b1])
      · repeat (first | refine aops_op' rfl (by simp only [go_sem, k1, k2, ho, opAV, b1, b2]; exact ⟨rfl, rfl⟩) ?_ | refine g_run ?_ | refine g_off ?_ | refine aops_call' rfl (rOperands_con env o.kind) (by simp only [go_sem, k1, k2, ho, opAV, b1, b2]; exact Is.rfl') (by simp only [go_sem, k1, k2, ho, opAV, b1, b2]; exact ⟨rfl, rfl⟩) ?_ | refine aops_call' rfl (rNumber_con env o vs ss) (by simp only [go_sem, k1, k2, ho, opAV, b1, b2]; exact Is.rfl') (by simp only [go_sem, k1, k2, ho, opAV, b1, b2]; exact ⟨rfl, rfl⟩) ?_ | refine aops_nil (d_end ?_) | refine aops_nil ?_ | refine awp_seq ?_ | refine g_text ?_ | refine g_draw Tryd.mixed ?_ | refine awp_block ?_ | refine awp_skip ?_ | (refine awp_exit ?_; simp only [thenA, blockA, ↓reduceIte, Nat.reduceEqDiff, reduceCtorEq]) | refine awp_yes' (by simp only [go_sem, k1, k2, ho, opAV, b1, b2]; exact Is.rfl') ?_ | refine awp_no' (by simp only [go_sem, k1, k2, ho, opAV, b1, b2]; exact Is.rfl') ?_)
        (refine awp_ret ?_; show (resRd _ _ _).run _ = some _; simp only [go_sem, k1, k2, ho, opAV, b1, b2])
      · repeat (first | refine aops_op' rfl (by simp only [go_sem, k1, k2, ho, opAV, b1, b2, b3]; exact ⟨rfl, rfl⟩) ?_ | refine g_run ?_ | refine g_off ?_ | refine aops_call' rfl (rOperands_con env o.kind) (by simp only [go_sem, k1, k2, ho, opAV, b1, b2, b3]; exact Is.rfl') (by simp only [go_sem, k1, k2, ho, opAV, b1, b2, b3]; exact ⟨rfl, rfl⟩) ?_ | refine aops_call' rfl (rNumber_con env o vs ss) (by simp only [go_sem, k1, k2, ho, opAV, b1, b2, b3]; exact Is.rfl') (by simp only [go_sem, k1, k2, ho, opAV, b1, b2, b3]; exact ⟨rfl, rfl⟩) ?_ | refine aops_nil (d_end ?_) | refine aops_nil ?_ | refine awp_seq ?_ | refine g_text ?_ | refine g_draw Tryd.mixed ?_ | refine awp_block ?_ | refine awp_skip ?_ | (refine awp_exit ?_; simp only [thenA, blockA, ↓reduceIte, Nat.reduceEqDiff, reduceCtorEq]) | refine awp_yes' (by simp only [go_sem, k1, k2, ho, opAV, b1, b2, b3]; exact Is.rfl') ?_ | refine awp_no' (by simp only [go_sem, k1, k2, ho, opAV, b1, b2, b3]; exact Is.rfl') ?_)
        (refine awp_ret ?_; show (resRd _ _ _).run _ = some _; simp only [go_sem, k1, k2, ho, opAV, b1, b2, b3])
  · have k1 : ¬ (i : Int) < (l.length : Int) := by omega
    have hend := hgt_end (by omega) hh
    by_cases h1 : n = 1
    · subst h1
      rw [codeC_yes hl hend]
      repeat (first | refine aops_op' rfl (by simp only [go_sem, k1]; exact ⟨rfl, rfl⟩) ?_ | refine g_run ?_ | refine g_off ?_ | refine aops_nil (d_end ?_) | refine aops_nil ?_ | refine awp_seq ?_ | refine g_text ?_ | refine g_draw Tryd.mixed ?_ | refine awp_block ?_ | refine awp_skip ?_ | (refine awp_exit ?_; simp only [thenA, blockA, ↓reduceIte, Nat.reduceEqDiff, reduceCtorEq]) | refine awp_yes' (by simp only [go_sem, k1]; exact Is.rfl') ?_ | refine awp_no' (by simp only [go_sem, k1]; exact Is.rfl') ?_)
      (refine awp_ret ?_; show (resRd _ _ _).run _ = some _; simp only [go_sem, k1])
    · rw [codeC_no hl (by rw [hend]; simpa using h1)]
      have k2 : (n != 1) = true := by simpa using h1
      repeat (first | refine aops_op' rfl (by simp only [go_sem, k1, k2]; exact ⟨rfl, rfl⟩) ?_ | refine g_run ?_ | refine g_off ?_ | refine aops_nil (d_end ?_) | refine aops_nil ?_ | refine awp_seq ?_ | refine g_text ?_ | refine g_draw Tryd.mixed ?_ | refine awp_block ?_ | refine awp_skip ?_ | (refine awp_exit ?_; simp only [thenA, blockA, ↓reduceIte, Nat.reduceEqDiff, reduceCtorEq]) | refine awp_yes' (by simp only [go_sem, k1, k2]; exact Is.rfl') ?_ | refine awp_no' (by simp only [go_sem, k1, k2]; exact Is.rfl') ?_)
      (refine awp_ret ?_; show (resRd _ _ _).run _ = some _; simp only [go_sem, k1, k2])
end Go.Proofs.YtaggnpieofpphaaDoor
