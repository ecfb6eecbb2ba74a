/- Contracts of the document's checks of charts (scriniumref24): by the walk without memory. -/
import Derived.Test.YtaggnpieofpphaaDoorH7
set_option linter.unusedSimpArgs false
namespace Go.Proofs.YtaggnpieofpphaaDoor
open Go.RowKit
set_option maxRecDepth 100000
set_option maxHeartbeats 8000000
attribute [local go_sem_proc] reduceIte reduceCtorEq Nat.reduceAdd Nat.reduceSub Nat.reduceEqDiff Nat.reduceLT Nat.reduceLeDiff Nat.reduceMul Int.reduceToNat Int.reduceBEq Int.reduceBNe Int.reduceEq Int.reduceLT Int.reduceLE
attribute [local go_sem] resRd resOne resAll HoldF HoldR Takes thenA blockA ev_move ev_assign ev_pick ev_alloc ev_box ev_build ev_buildSlice ev_load ev_store ev_binOp ev_unOp ev_convert ev_iface ev_make ev_slice ev_fieldAddr ev_field ev_indexAddr ev_index ev_extract ev_len ev_append ev_min ev_max evMin evMax gt_tmp gt_int gt_bool gt_str gt_nilS gt_nilP gt_nilI pickRd allocRd buildRd sliceRd loadRd unRd ifaceRd exRd val optRd callRd seen AV.plain adopt fzArgs Rd.run AV.asCells newBox runL Comes' Rd.row Rd.bind Out.app apps Eff.app St.renew St.setRow St.show St.put St.init upd evStore evBin eqFs eqCell evConv evSeq evLen evIndexAddr evFieldAddr evField evIndex bound evSlice evAppend evMake loadOf fillAV fillEs fzParts fz fzCell fzCells shows isConstOp splice wrs wes Value.oneCell' List.getD_cons_zero List.getD_cons_succ List.getD_nil List.length_cons List.length_nil List.map_cons List.map_nil List.nil_append List.cons_append List.all_cons List.all_nil List.getElem?_cons_zero List.getElem?_cons_succ List.set_cons_zero List.set_cons_succ List.take_succ_cons List.take_zero List.drop_succ_cons List.drop_zero List.take_nil List.drop_nil List.replicate_succ List.replicate_zero Bool.and_true Bool.true_and Bool.and_self and_self true_and and_true Nat.zero_add Nat.add_zero Option.some.injEq Nat.zero_lt_succ Bool.not_true Bool.not_false ne_eq not_true_eq_false not_false_eq_true Option.map_some Option.map_none List.toList_toArray head headF headR List.length_map Int.toNat_natCast Int.natCast_nonneg List.getElem?_map decide_true decide_false Bool.false_eq_true if_true if_false Bool.or_self Bool.or_true Bool.true_or Bool.false_or Bool.or_false Bool.and_false Bool.false_and List.flatten_cons List.flatten_nil List.append_nil nat0 or_self or_false false_or or_true true_or and_false false_and List.length_append List.isEmpty_nil bne_self_eq_false beq_self_eq_true fits_small strL_l bytesOf_map wants Int.cast_ofNat_Int gt_iff_lt ge_iff_le
attribute [local go_sem ←] List.map_drop List.map_take

theorem rCode_con (env : Env) (c : ChD) (l : List OpD) : Con Tryd.prog env 81 [.agg (chAV c), opsAV l] (B (codeB l c.vars.length c.states.length)) := by
  have hx := rExprCheck_con env l c.vars.length c.states.length
  unfold codeB
  refine con_of_body Tryd.func81 rfl Tryd.call81 (by rw [Tryd.ntmps81]; simp) ?_
  rw [Tryd.ntmps81, Tryd.results81]
  repeat (first | refine aops_op' rfl (by simp only [go_sem, chAV]; exact ⟨rfl, rfl⟩) ?_ | refine g_run ?_ | refine g_off ?_ | refine aops_call' rfl (hx) (by simp only [go_sem, chAV]; exact Is.rfl') (by simp only [go_sem, chAV]; exact ⟨rfl, rfl⟩) ?_ | refine aops_nil (d_end ?_) | refine aops_nil ?_ | refine awp_seq ?_ | refine g_text ?_ | refine g_draw Tryd.mixed ?_ | refine awp_block ?_ | refine awp_skip ?_ | (refine awp_exit ?_; simp only [thenA, blockA, ↓reduceIte, Nat.reduceEqDiff, reduceCtorEq]) | refine awp_yes' (by simp only [go_sem, chAV]; exact Is.rfl') ?_ | refine awp_no' (by simp only [go_sem, chAV]; exact Is.rfl') ?_)
  (refine awp_ret ?_; show (resRd _ _ _).run _ = some _; simp only [go_sem, chAV])
theorem name_some {m : List UInt8} (h : nameB m = true) : (m == []) = false := by
  cases m with
  | nil => cases h
  | cons a l => rfl
theorem rAct_con (env : Env) (c : ChD) (a : ActD) : Con Tryd.prog env 95 [.agg (chAV c), .agg (actAV a)] (B (actB c.vars.length c.states.length a)) := by
  obtain ⟨k, n, m, co⟩ := a
  have hcode := rCode_con env c co
  have hname := w_name_con env m
  have hco : ((co.length : Int) == 0) = (co == []) := by
    rw [Bool.eq_iff_iff]
    simp
  refine con_of_body Tryd.func95 rfl Tryd.call95 (by rw [Tryd.ntmps95]; simp) ?_
  rw [Tryd.ntmps95, Tryd.results95]
  by_cases hk1 : k = 1
  · subst hk1
    have hr : actB c.vars.length c.states.length ⟨1, n, m, co⟩ = (decide (0 ≤ n ∧ n < c.vars.length) && (m == []) && codeB co c.vars.length c.states.length) := rfl
    rw [hr]
    cases e1 : nameB m
    case true =>
      have e2 := name_some e1
      rw [e2, show ((decide (0 ≤ n ∧ n < c.vars.length) && false && codeB co c.vars.length c.states.length)) = false by simp]
      repeat (first | refine aops_op' rfl (by simp only [go_sem, chAV, actAV, e1, e2, bne, Bool.true_beq, Bool.false_beq]; exact ⟨rfl, rfl⟩) ?_ | refine g_run ?_ | refine g_off ?_ | refine aops_call' rfl (hcode) (by simp only [go_sem, chAV, actAV, e1, e2, bne, Bool.true_beq, Bool.false_beq]; exact Is.rfl') (by simp only [go_sem, chAV, actAV, e1, e2, bne, Bool.true_beq, Bool.false_beq]; exact ⟨rfl, rfl⟩) ?_ | refine aops_call' rfl (hname) (by simp only [go_sem, chAV, actAV, e1, e2, bne, Bool.true_beq, Bool.false_beq]; exact Is.rfl') (by simp only [go_sem, chAV, actAV, e1, e2, bne, Bool.true_beq, Bool.false_beq]; exact ⟨rfl, rfl⟩) ?_ | refine aops_nil (d_end ?_) | refine aops_nil ?_ | refine awp_seq ?_ | refine g_text ?_ | refine g_draw Tryd.mixed ?_ | refine awp_block ?_ | refine awp_skip ?_ | (refine awp_exit ?_; simp only [thenA, blockA, ↓reduceIte, Nat.reduceEqDiff, reduceCtorEq]) | refine awp_yes' (by simp only [go_sem, chAV, actAV, e1, e2, bne, Bool.true_beq, Bool.false_beq]; exact Is.rfl') ?_ | refine awp_no' (by simp only [go_sem, chAV, actAV, e1, e2, bne, Bool.true_beq, Bool.false_beq]; exact Is.rfl') ?_)
      (refine awp_ret ?_; show (resRd _ _ _).run _ = some _; simp only [go_sem, chAV, actAV, e1, e2, bne, Bool.true_beq, Bool.false_beq])
    cases e2 : (m == [])
    · rw [show ((decide (0 ≤ n ∧ n < c.vars.length) && false && codeB co c.vars.length c.states.length)) = false by simp]
      repeat (first | refine aops_op' rfl (by simp only [go_sem, chAV, actAV, e1, e2, bne, Bool.true_beq, Bool.false_beq]; exact ⟨rfl, rfl⟩) ?_ | refine g_run ?_ | refine g_off ?_ | refine aops_call' rfl (hcode) (by simp only [go_sem, chAV, actAV, e1, e2, bne, Bool.true_beq, Bool.false_beq]; exact Is.rfl') (by simp only [go_sem, chAV, actAV, e1, e2, bne, Bool.true_beq, Bool.false_beq]; exact ⟨rfl, rfl⟩) ?_ | refine aops_call' rfl (hname) (by simp only [go_sem, chAV, actAV, e1, e2, bne, Bool.true_beq, Bool.false_beq]; exact Is.rfl') (by simp only [go_sem, chAV, actAV, e1, e2, bne, Bool.true_beq, Bool.false_beq]; exact ⟨rfl, rfl⟩) ?_ | refine aops_nil (d_end ?_) | refine aops_nil ?_ | refine awp_seq ?_ | refine g_text ?_ | refine g_draw Tryd.mixed ?_ | refine awp_block ?_ | refine awp_skip ?_ | (refine awp_exit ?_; simp only [thenA, blockA, ↓reduceIte, Nat.reduceEqDiff, reduceCtorEq]) | refine awp_yes' (by simp only [go_sem, chAV, actAV, e1, e2, bne, Bool.true_beq, Bool.false_beq]; exact Is.rfl') ?_ | refine awp_no' (by simp only [go_sem, chAV, actAV, e1, e2, bne, Bool.true_beq, Bool.false_beq]; exact Is.rfl') ?_)
      (refine awp_ret ?_; show (resRd _ _ _).run _ = some _; simp only [go_sem, chAV, actAV, e1, e2, bne, Bool.true_beq, Bool.false_beq])
    by_cases h1 : 0 ≤ n
    · by_cases h2 : n < (c.vars.length : Int)
      · rw [show (decide (0 ≤ n ∧ n < c.vars.length) && true && codeB co c.vars.length c.states.length) = codeB co c.vars.length c.states.length by simp [h1, h2]]
        repeat (first | refine aops_op' rfl (by simp only [go_sem, chAV, actAV, e1, e2, h1, h2, bne, Bool.true_beq, Bool.false_beq]; exact ⟨rfl, rfl⟩) ?_ | refine g_run ?_ | refine g_off ?_ | refine aops_call' rfl (hcode) (by simp only [go_sem, chAV, actAV, e1, e2, h1, h2, bne, Bool.true_beq, Bool.false_beq]; exact Is.rfl') (by simp only [go_sem, chAV, actAV, e1, e2, h1, h2, bne, Bool.true_beq, Bool.false_beq]; exact ⟨rfl, rfl⟩) ?_ | refine aops_call' rfl (hname) (by simp only [go_sem, chAV, actAV, e1, e2, h1, h2, bne, Bool.true_beq, Bool.false_beq]; exact Is.rfl') (by simp only [go_sem, chAV, actAV, e1, e2, h1, h2, bne, Bool.true_beq, Bool.false_beq]; exact ⟨rfl, rfl⟩) ?_ | refine aops_nil (d_end ?_) | refine aops_nil ?_ | refine awp_seq ?_ | refine g_text ?_ | refine g_draw Tryd.mixed ?_ | refine awp_block ?_ | refine awp_skip ?_ | (refine awp_exit ?_; simp only [thenA, blockA, ↓reduceIte, Nat.reduceEqDiff, reduceCtorEq]) | refine awp_yes' (by simp only [go_sem, chAV, actAV, e1, e2, h1, h2, bne, Bool.true_beq, Bool.false_beq]; exact Is.rfl') ?_ | refine awp_no' (by simp only [go_sem, chAV, actAV, e1, e2, h1, h2, bne, Bool.true_beq, Bool.false_beq]; exact Is.rfl') ?_)
        (refine awp_ret ?_; show (resRd _ _ _).run _ = some _; simp only [go_sem, chAV, actAV, e1, e2, h1, h2, bne, Bool.true_beq, Bool.false_beq])
      · rw [show (decide (0 ≤ n ∧ n < c.vars.length) && true && codeB co c.vars.length c.states.length) = false by simp [h2]]
        repeat (first | refine aops_op' rfl (by simp only [go_sem, chAV, actAV, e1, e2, h1, h2, bne, Bool.true_beq, Bool.false_beq]; exact ⟨rfl, rfl⟩) ?_ | refine g_run ?_ | refine g_off ?_ | refine aops_call' rfl (hcode) (by simp only [go_sem, chAV, actAV, e1, e2, h1, h2, bne, Bool.true_beq, Bool.false_beq]; exact Is.rfl') (by simp only [go_sem, chAV, actAV, e1, e2, h1, h2, bne, Bool.true_beq, Bool.false_beq]; exact ⟨rfl, rfl⟩) ?_ | refine aops_call' rfl (hname) (by simp only [go_sem, chAV, actAV, e1, e2, h1, h2, bne, Bool.true_beq, Bool.false_beq]; exact Is.rfl') (by simp only [go_sem, chAV, actAV, e1, e2, h1, h2, bne, Bool.true_beq, Bool.false_beq]; exact ⟨rfl, rfl⟩) ?_ | refine aops_nil (d_end ?_) | refine aops_nil ?_ | refine awp_seq ?_ | refine g_text ?_ | refine g_draw Tryd.mixed ?_ | refine awp_block ?_ | refine awp_skip ?_ | (refine awp_exit ?_; simp only [thenA, blockA, ↓reduceIte, Nat.reduceEqDiff, reduceCtorEq]) | refine awp_yes' (by simp only [go_sem, chAV, actAV, e1, e2, h1, h2, bne, Bool.true_beq, Bool.false_beq]; exact Is.rfl') ?_ | refine awp_no' (by simp only [go_sem, chAV, actAV, e1, e2, h1, h2, bne, Bool.true_beq, Bool.false_beq]; exact Is.rfl') ?_)
        (refine awp_ret ?_; show (resRd _ _ _).run _ = some _; simp only [go_sem, chAV, actAV, e1, e2, h1, h2, bne, Bool.true_beq, Bool.false_beq])
    · rw [show (decide (0 ≤ n ∧ n < c.vars.length) && true && codeB co c.vars.length c.states.length) = false by simp [h1]]
      repeat (first | refine aops_op' rfl (by simp only [go_sem, chAV, actAV, e1, e2, h1, bne, Bool.true_beq, Bool.false_beq]; exact ⟨rfl, rfl⟩) ?_ | refine g_run ?_ | refine g_off ?_ | refine aops_call' rfl (hcode) (by simp only [go_sem, chAV, actAV, e1, e2, h1, bne, Bool.true_beq, Bool.false_beq]; exact Is.rfl') (by simp only [go_sem, chAV, actAV, e1, e2, h1, bne, Bool.true_beq, Bool.false_beq]; exact ⟨rfl, rfl⟩) ?_ | refine aops_call' rfl (hname) (by simp only [go_sem, chAV, actAV, e1, e2, h1, bne, Bool.true_beq, Bool.false_beq]; exact Is.rfl') (by simp only [go_sem, chAV, actAV, e1, e2, h1, bne, Bool.true_beq, Bool.false_beq]; exact ⟨rfl, rfl⟩) ?_ | refine aops_nil (d_end ?_) | refine aops_nil ?_ | refine awp_seq ?_ | refine g_text ?_ | refine g_draw Tryd.mixed ?_ | refine awp_block ?_ | refine awp_skip ?_ | (refine awp_exit ?_; simp only [thenA, blockA, ↓reduceIte, Nat.reduceEqDiff, reduceCtorEq]) | refine awp_yes' (by simp only [go_sem, chAV, actAV, e1, e2, h1, bne, Bool.true_beq, Bool.false_beq]; exact Is.rfl') ?_ | refine awp_no' (by simp only [go_sem, chAV, actAV, e1, e2, h1, bne, Bool.true_beq, Bool.false_beq]; exact Is.rfl') ?_)
      (refine awp_ret ?_; show (resRd _ _ _).run _ = some _; simp only [go_sem, chAV, actAV, e1, e2, h1, bne, Bool.true_beq, Bool.false_beq])
  by_cases hk3 : k = 3
  · subst hk3
    have hr : actB c.vars.length c.states.length ⟨3, n, m, co⟩ = ((n == 0) && (m == []) && codeB co c.vars.length c.states.length) := rfl
    rw [hr]
    cases e1 : nameB m
    case true =>
      have e2 := name_some e1
      rw [e2, show (((n == 0) && false && codeB co c.vars.length c.states.length)) = false by simp]
      repeat (first | refine aops_op' rfl (by simp only [go_sem, chAV, actAV, e1, e2, bne, Bool.true_beq, Bool.false_beq]; exact ⟨rfl, rfl⟩) ?_ | refine g_run ?_ | refine g_off ?_ | refine aops_call' rfl (hcode) (by simp only [go_sem, chAV, actAV, e1, e2, bne, Bool.true_beq, Bool.false_beq]; exact Is.rfl') (by simp only [go_sem, chAV, actAV, e1, e2, bne, Bool.true_beq, Bool.false_beq]; exact ⟨rfl, rfl⟩) ?_ | refine aops_call' rfl (hname) (by simp only [go_sem, chAV, actAV, e1, e2, bne, Bool.true_beq, Bool.false_beq]; exact Is.rfl') (by simp only [go_sem, chAV, actAV, e1, e2, bne, Bool.true_beq, Bool.false_beq]; exact ⟨rfl, rfl⟩) ?_ | refine aops_nil (d_end ?_) | refine aops_nil ?_ | refine awp_seq ?_ | refine g_text ?_ | refine g_draw Tryd.mixed ?_ | refine awp_block ?_ | refine awp_skip ?_ | (refine awp_exit ?_; simp only [thenA, blockA, ↓reduceIte, Nat.reduceEqDiff, reduceCtorEq]) | refine awp_yes' (by simp only [go_sem, chAV, actAV, e1, e2, bne, Bool.true_beq, Bool.false_beq]; exact Is.rfl') ?_ | refine awp_no' (by simp only [go_sem, chAV, actAV, e1, e2, bne, Bool.true_beq, Bool.false_beq]; exact Is.rfl') ?_)
      (refine awp_ret ?_; show (resRd _ _ _).run _ = some _; simp only [go_sem, chAV, actAV, e1, e2, bne, Bool.true_beq, Bool.false_beq])
    cases e2 : (m == [])
    · rw [show (((n == 0) && false && codeB co c.vars.length c.states.length)) = false by simp]
      repeat (first | refine aops_op' rfl (by simp only [go_sem, chAV, actAV, e1, e2, bne, Bool.true_beq, Bool.false_beq]; exact ⟨rfl, rfl⟩) ?_ | refine g_run ?_ | refine g_off ?_ | refine aops_call' rfl (hcode) (by simp only [go_sem, chAV, actAV, e1, e2, bne, Bool.true_beq, Bool.false_beq]; exact Is.rfl') (by simp only [go_sem, chAV, actAV, e1, e2, bne, Bool.true_beq, Bool.false_beq]; exact ⟨rfl, rfl⟩) ?_ | refine aops_call' rfl (hname) (by simp only [go_sem, chAV, actAV, e1, e2, bne, Bool.true_beq, Bool.false_beq]; exact Is.rfl') (by simp only [go_sem, chAV, actAV, e1, e2, bne, Bool.true_beq, Bool.false_beq]; exact ⟨rfl, rfl⟩) ?_ | refine aops_nil (d_end ?_) | refine aops_nil ?_ | refine awp_seq ?_ | refine g_text ?_ | refine g_draw Tryd.mixed ?_ | refine awp_block ?_ | refine awp_skip ?_ | (refine awp_exit ?_; simp only [thenA, blockA, ↓reduceIte, Nat.reduceEqDiff, reduceCtorEq]) | refine awp_yes' (by simp only [go_sem, chAV, actAV, e1, e2, bne, Bool.true_beq, Bool.false_beq]; exact Is.rfl') ?_ | refine awp_no' (by simp only [go_sem, chAV, actAV, e1, e2, bne, Bool.true_beq, Bool.false_beq]; exact Is.rfl') ?_)
      (refine awp_ret ?_; show (resRd _ _ _).run _ = some _; simp only [go_sem, chAV, actAV, e1, e2, bne, Bool.true_beq, Bool.false_beq])
    cases e3 : (n == 0)
    · rw [show (false && true && codeB co c.vars.length c.states.length) = false from rfl]
      repeat (first | refine aops_op' rfl (by simp only [go_sem, chAV, actAV, e1, e2, e3, bne, Bool.true_beq, Bool.false_beq]; exact ⟨rfl, rfl⟩) ?_ | refine g_run ?_ | refine g_off ?_ | refine aops_call' rfl (hcode) (by simp only [go_sem, chAV, actAV, e1, e2, e3, bne, Bool.true_beq, Bool.false_beq]; exact Is.rfl') (by simp only [go_sem, chAV, actAV, e1, e2, e3, bne, Bool.true_beq, Bool.false_beq]; exact ⟨rfl, rfl⟩) ?_ | refine aops_call' rfl (hname) (by simp only [go_sem, chAV, actAV, e1, e2, e3, bne, Bool.true_beq, Bool.false_beq]; exact Is.rfl') (by simp only [go_sem, chAV, actAV, e1, e2, e3, bne, Bool.true_beq, Bool.false_beq]; exact ⟨rfl, rfl⟩) ?_ | refine aops_nil (d_end ?_) | refine aops_nil ?_ | refine awp_seq ?_ | refine g_text ?_ | refine g_draw Tryd.mixed ?_ | refine awp_block ?_ | refine awp_skip ?_ | (refine awp_exit ?_; simp only [thenA, blockA, ↓reduceIte, Nat.reduceEqDiff, reduceCtorEq]) | refine awp_yes' (by simp only [go_sem, chAV, actAV, e1, e2, e3, bne, Bool.true_beq, Bool.false_beq]; exact Is.rfl') ?_ | refine awp_no' (by simp only [go_sem, chAV, actAV, e1, e2, e3, bne, Bool.true_beq, Bool.false_beq]; exact Is.rfl') ?_)
      (refine awp_ret ?_; show (resRd _ _ _).run _ = some _; simp only [go_sem, chAV, actAV, e1, e2, e3, bne, Bool.true_beq, Bool.false_beq])
    · rw [show (true && true && codeB co c.vars.length c.states.length) = codeB co c.vars.length c.states.length by simp]
      repeat (first | refine aops_op' rfl (by simp only [go_sem, chAV, actAV, e1, e2, e3, bne, Bool.true_beq, Bool.false_beq]; exact ⟨rfl, rfl⟩) ?_ | refine g_run ?_ | refine g_off ?_ | refine aops_call' rfl (hcode) (by simp only [go_sem, chAV, actAV, e1, e2, e3, bne, Bool.true_beq, Bool.false_beq]; exact Is.rfl') (by simp only [go_sem, chAV, actAV, e1, e2, e3, bne, Bool.true_beq, Bool.false_beq]; exact ⟨rfl, rfl⟩) ?_ | refine aops_call' rfl (hname) (by simp only [go_sem, chAV, actAV, e1, e2, e3, bne, Bool.true_beq, Bool.false_beq]; exact Is.rfl') (by simp only [go_sem, chAV, actAV, e1, e2, e3, bne, Bool.true_beq, Bool.false_beq]; exact ⟨rfl, rfl⟩) ?_ | refine aops_nil (d_end ?_) | refine aops_nil ?_ | refine awp_seq ?_ | refine g_text ?_ | refine g_draw Tryd.mixed ?_ | refine awp_block ?_ | refine awp_skip ?_ | (refine awp_exit ?_; simp only [thenA, blockA, ↓reduceIte, Nat.reduceEqDiff, reduceCtorEq]) | refine awp_yes' (by simp only [go_sem, chAV, actAV, e1, e2, e3, bne, Bool.true_beq, Bool.false_beq]; exact Is.rfl') ?_ | refine awp_no' (by simp only [go_sem, chAV, actAV, e1, e2, e3, bne, Bool.true_beq, Bool.false_beq]; exact Is.rfl') ?_)
      (refine awp_ret ?_; show (resRd _ _ _).run _ = some _; simp only [go_sem, chAV, actAV, e1, e2, e3, bne, Bool.true_beq, Bool.false_beq])
  by_cases hk2 : k = 2
  · subst hk2
    have hr : actB c.vars.length c.states.length ⟨2, n, m, co⟩ = ((n == 0) && nameB m && codeB co c.vars.length c.states.length) := rfl
    rw [hr]
    cases e1 : nameB m
    · rw [Bool.and_false, Bool.false_and]
      repeat (first | refine aops_op' rfl (by simp only [go_sem, chAV, actAV, e1, bne, Bool.true_beq, Bool.false_beq]; exact ⟨rfl, rfl⟩) ?_ | refine g_run ?_ | refine g_off ?_ | refine aops_call' rfl (hcode) (by simp only [go_sem, chAV, actAV, e1, bne, Bool.true_beq, Bool.false_beq]; exact Is.rfl') (by simp only [go_sem, chAV, actAV, e1, bne, Bool.true_beq, Bool.false_beq]; exact ⟨rfl, rfl⟩) ?_ | refine aops_call' rfl (hname) (by simp only [go_sem, chAV, actAV, e1, bne, Bool.true_beq, Bool.false_beq]; exact Is.rfl') (by simp only [go_sem, chAV, actAV, e1, bne, Bool.true_beq, Bool.false_beq]; exact ⟨rfl, rfl⟩) ?_ | refine aops_nil (d_end ?_) | refine aops_nil ?_ | refine awp_seq ?_ | refine g_text ?_ | refine g_draw Tryd.mixed ?_ | refine awp_block ?_ | refine awp_skip ?_ | (refine awp_exit ?_; simp only [thenA, blockA, ↓reduceIte, Nat.reduceEqDiff, reduceCtorEq]) | refine awp_yes' (by simp only [go_sem, chAV, actAV, e1, bne, Bool.true_beq, Bool.false_beq]; exact Is.rfl') ?_ | refine awp_no' (by simp only [go_sem, chAV, actAV, e1, bne, Bool.true_beq, Bool.false_beq]; exact Is.rfl') ?_)
      (refine awp_ret ?_; show (resRd _ _ _).run _ = some _; simp only [go_sem, chAV, actAV, e1, bne, Bool.true_beq, Bool.false_beq])
    cases e3 : (n == 0)
    · rw [Bool.false_and, Bool.false_and]
      repeat (first | refine aops_op' rfl (by simp only [go_sem, chAV, actAV, e1, e3, bne, Bool.true_beq, Bool.false_beq]; exact ⟨rfl, rfl⟩) ?_ | refine g_run ?_ | refine g_off ?_ | refine aops_call' rfl (hcode) (by simp only [go_sem, chAV, actAV, e1, e3, bne, Bool.true_beq, Bool.false_beq]; exact Is.rfl') (by simp only [go_sem, chAV, actAV, e1, e3, bne, Bool.true_beq, Bool.false_beq]; exact ⟨rfl, rfl⟩) ?_ | refine aops_call' rfl (hname) (by simp only [go_sem, chAV, actAV, e1, e3, bne, Bool.true_beq, Bool.false_beq]; exact Is.rfl') (by simp only [go_sem, chAV, actAV, e1, e3, bne, Bool.true_beq, Bool.false_beq]; exact ⟨rfl, rfl⟩) ?_ | refine aops_nil (d_end ?_) | refine aops_nil ?_ | refine awp_seq ?_ | refine g_text ?_ | refine g_draw Tryd.mixed ?_ | refine awp_block ?_ | refine awp_skip ?_ | (refine awp_exit ?_; simp only [thenA, blockA, ↓reduceIte, Nat.reduceEqDiff, reduceCtorEq]) | refine awp_yes' (by simp only [go_sem, chAV, actAV, e1, e3, bne, Bool.true_beq, Bool.false_beq]; exact Is.rfl') ?_ | refine awp_no' (by simp only [go_sem, chAV, actAV, e1, e3, bne, Bool.true_beq, Bool.false_beq]; exact Is.rfl') ?_)
      (refine awp_ret ?_; show (resRd _ _ _).run _ = some _; simp only [go_sem, chAV, actAV, e1, e3, bne, Bool.true_beq, Bool.false_beq])
    · rw [Bool.true_and, Bool.true_and]
      repeat (first | refine aops_op' rfl (by simp only [go_sem, chAV, actAV, e1, e3, bne, Bool.true_beq, Bool.false_beq]; exact ⟨rfl, rfl⟩) ?_ | refine g_run ?_ | refine g_off ?_ | refine aops_call' rfl (hcode) (by simp only [go_sem, chAV, actAV, e1, e3, bne, Bool.true_beq, Bool.false_beq]; exact Is.rfl') (by simp only [go_sem, chAV, actAV, e1, e3, bne, Bool.true_beq, Bool.false_beq]; exact ⟨rfl, rfl⟩) ?_ | refine aops_call' rfl (hname) (by simp only [go_sem, chAV, actAV, e1, e3, bne, Bool.true_beq, Bool.false_beq]; exact Is.rfl') (by simp only [go_sem, chAV, actAV, e1, e3, bne, Bool.true_beq, Bool.false_beq]; exact ⟨rfl, rfl⟩) ?_ | refine aops_nil (d_end ?_) | refine aops_nil ?_ | refine awp_seq ?_ | refine g_text ?_ | refine g_draw Tryd.mixed ?_ | refine awp_block ?_ | refine awp_skip ?_ | (refine awp_exit ?_; simp only [thenA, blockA, ↓reduceIte, Nat.reduceEqDiff, reduceCtorEq]) | refine awp_yes' (by simp only [go_sem, chAV, actAV, e1, e3, bne, Bool.true_beq, Bool.false_beq]; exact Is.rfl') ?_ | refine awp_no' (by simp only [go_sem, chAV, actAV, e1, e3, bne, Bool.true_beq, Bool.false_beq]; exact Is.rfl') ?_)
      (refine awp_ret ?_; show (resRd _ _ _).run _ = some _; simp only [go_sem, chAV, actAV, e1, e3, bne, Bool.true_beq, Bool.false_beq])
  by_cases hk4 : k = 4
  · subst hk4
    have hr : actB c.vars.length c.states.length ⟨4, n, m, co⟩ = ((n == 0) && nameB m && codeB co c.vars.length c.states.length) := rfl
    rw [hr]
    cases e1 : nameB m
    · rw [Bool.and_false, Bool.false_and]
      repeat (first | refine aops_op' rfl (by simp only [go_sem, chAV, actAV, e1, bne, Bool.true_beq, Bool.false_beq]; exact ⟨rfl, rfl⟩) ?_ | refine g_run ?_ | refine g_off ?_ | refine aops_call' rfl (hcode) (by simp only [go_sem, chAV, actAV, e1, bne, Bool.true_beq, Bool.false_beq]; exact Is.rfl') (by simp only [go_sem, chAV, actAV, e1, bne, Bool.true_beq, Bool.false_beq]; exact ⟨rfl, rfl⟩) ?_ | refine aops_call' rfl (hname) (by simp only [go_sem, chAV, actAV, e1, bne, Bool.true_beq, Bool.false_beq]; exact Is.rfl') (by simp only [go_sem, chAV, actAV, e1, bne, Bool.true_beq, Bool.false_beq]; exact ⟨rfl, rfl⟩) ?_ | refine aops_nil (d_end ?_) | refine aops_nil ?_ | refine awp_seq ?_ | refine g_text ?_ | refine g_draw Tryd.mixed ?_ | refine awp_block ?_ | refine awp_skip ?_ | (refine awp_exit ?_; simp only [thenA, blockA, ↓reduceIte, Nat.reduceEqDiff, reduceCtorEq]) | refine awp_yes' (by simp only [go_sem, chAV, actAV, e1, bne, Bool.true_beq, Bool.false_beq]; exact Is.rfl') ?_ | refine awp_no' (by simp only [go_sem, chAV, actAV, e1, bne, Bool.true_beq, Bool.false_beq]; exact Is.rfl') ?_)
      (refine awp_ret ?_; show (resRd _ _ _).run _ = some _; simp only [go_sem, chAV, actAV, e1, bne, Bool.true_beq, Bool.false_beq])
    cases e3 : (n == 0)
    · rw [Bool.false_and, Bool.false_and]
      repeat (first | refine aops_op' rfl (by simp only [go_sem, chAV, actAV, e1, e3, bne, Bool.true_beq, Bool.false_beq]; exact ⟨rfl, rfl⟩) ?_ | refine g_run ?_ | refine g_off ?_ | refine aops_call' rfl (hcode) (by simp only [go_sem, chAV, actAV, e1, e3, bne, Bool.true_beq, Bool.false_beq]; exact Is.rfl') (by simp only [go_sem, chAV, actAV, e1, e3, bne, Bool.true_beq, Bool.false_beq]; exact ⟨rfl, rfl⟩) ?_ | refine aops_call' rfl (hname) (by simp only [go_sem, chAV, actAV, e1, e3, bne, Bool.true_beq, Bool.false_beq]; exact Is.rfl') (by simp only [go_sem, chAV, actAV, e1, e3, bne, Bool.true_beq, Bool.false_beq]; exact ⟨rfl, rfl⟩) ?_ | refine aops_nil (d_end ?_) | refine aops_nil ?_ | refine awp_seq ?_ | refine g_text ?_ | refine g_draw Tryd.mixed ?_ | refine awp_block ?_ | refine awp_skip ?_ | (refine awp_exit ?_; simp only [thenA, blockA, ↓reduceIte, Nat.reduceEqDiff, reduceCtorEq]) | refine awp_yes' (by simp only [go_sem, chAV, actAV, e1, e3, bne, Bool.true_beq, Bool.false_beq]; exact Is.rfl') ?_ | refine awp_no' (by simp only [go_sem, chAV, actAV, e1, e3, bne, Bool.true_beq, Bool.false_beq]; exact Is.rfl') ?_)
      (refine awp_ret ?_; show (resRd _ _ _).run _ = some _; simp only [go_sem, chAV, actAV, e1, e3, bne, Bool.true_beq, Bool.false_beq])
    · rw [Bool.true_and, Bool.true_and]
      repeat (first | refine aops_op' rfl (by simp only [go_sem, chAV, actAV, e1, e3, bne, Bool.true_beq, Bool.false_beq]; exact ⟨rfl, rfl⟩) ?_ | refine g_run ?_ | refine g_off ?_ | refine aops_call' rfl (hcode) (by simp only [go_sem, chAV, actAV, e1, e3, bne, Bool.true_beq, Bool.false_beq]; exact Is.rfl') (by simp only [go_sem, chAV, actAV, e1, e3, bne, Bool.true_beq, Bool.false_beq]; exact ⟨rfl, rfl⟩) ?_ | refine aops_call' rfl (hname) (by simp only [go_sem, chAV, actAV, e1, e3, bne, Bool.true_beq, Bool.false_beq]; exact Is.rfl') (by simp only [go_sem, chAV, actAV, e1, e3, bne, Bool.true_beq, Bool.false_beq]; exact ⟨rfl, rfl⟩) ?_ | refine aops_nil (d_end ?_) | refine aops_nil ?_ | refine awp_seq ?_ | refine g_text ?_ | refine g_draw Tryd.mixed ?_ | refine awp_block ?_ | refine awp_skip ?_ | (refine awp_exit ?_; simp only [thenA, blockA, ↓reduceIte, Nat.reduceEqDiff, reduceCtorEq]) | refine awp_yes' (by simp only [go_sem, chAV, actAV, e1, e3, bne, Bool.true_beq, Bool.false_beq]; exact Is.rfl') ?_ | refine awp_no' (by simp only [go_sem, chAV, actAV, e1, e3, bne, Bool.true_beq, Bool.false_beq]; exact Is.rfl') ?_)
      (refine awp_ret ?_; show (resRd _ _ _).run _ = some _; simp only [go_sem, chAV, actAV, e1, e3, bne, Bool.true_beq, Bool.false_beq])
  by_cases hk5 : k = 5
  · subst hk5
    have hr : actB c.vars.length c.states.length ⟨5, n, m, co⟩ = ((n == 0) && nameB m && (co == [])) := rfl
    rw [hr]
    cases e1 : nameB m
    · rw [Bool.and_false, Bool.false_and]
      repeat (first | refine aops_op' rfl (by simp only [go_sem, chAV, actAV, e1, bne, Bool.true_beq, Bool.false_beq]; exact ⟨rfl, rfl⟩) ?_ | refine g_run ?_ | refine g_off ?_ | refine aops_call' rfl (hcode) (by simp only [go_sem, chAV, actAV, e1, bne, Bool.true_beq, Bool.false_beq]; exact Is.rfl') (by simp only [go_sem, chAV, actAV, e1, bne, Bool.true_beq, Bool.false_beq]; exact ⟨rfl, rfl⟩) ?_ | refine aops_call' rfl (hname) (by simp only [go_sem, chAV, actAV, e1, bne, Bool.true_beq, Bool.false_beq]; exact Is.rfl') (by simp only [go_sem, chAV, actAV, e1, bne, Bool.true_beq, Bool.false_beq]; exact ⟨rfl, rfl⟩) ?_ | refine aops_nil (d_end ?_) | refine aops_nil ?_ | refine awp_seq ?_ | refine g_text ?_ | refine g_draw Tryd.mixed ?_ | refine awp_block ?_ | refine awp_skip ?_ | (refine awp_exit ?_; simp only [thenA, blockA, ↓reduceIte, Nat.reduceEqDiff, reduceCtorEq]) | refine awp_yes' (by simp only [go_sem, chAV, actAV, e1, bne, Bool.true_beq, Bool.false_beq]; exact Is.rfl') ?_ | refine awp_no' (by simp only [go_sem, chAV, actAV, e1, bne, Bool.true_beq, Bool.false_beq]; exact Is.rfl') ?_)
      (refine awp_ret ?_; show (resRd _ _ _).run _ = some _; simp only [go_sem, chAV, actAV, e1, bne, Bool.true_beq, Bool.false_beq])
    cases e3 : (n == 0)
    · rw [Bool.false_and, Bool.false_and]
      repeat (first | refine aops_op' rfl (by simp only [go_sem, chAV, actAV, e1, e3, bne, Bool.true_beq, Bool.false_beq]; exact ⟨rfl, rfl⟩) ?_ | refine g_run ?_ | refine g_off ?_ | refine aops_call' rfl (hcode) (by simp only [go_sem, chAV, actAV, e1, e3, bne, Bool.true_beq, Bool.false_beq]; exact Is.rfl') (by simp only [go_sem, chAV, actAV, e1, e3, bne, Bool.true_beq, Bool.false_beq]; exact ⟨rfl, rfl⟩) ?_ | refine aops_call' rfl (hname) (by simp only [go_sem, chAV, actAV, e1, e3, bne, Bool.true_beq, Bool.false_beq]; exact Is.rfl') (by simp only [go_sem, chAV, actAV, e1, e3, bne, Bool.true_beq, Bool.false_beq]; exact ⟨rfl, rfl⟩) ?_ | refine aops_nil (d_end ?_) | refine aops_nil ?_ | refine awp_seq ?_ | refine g_text ?_ | refine g_draw Tryd.mixed ?_ | refine awp_block ?_ | refine awp_skip ?_ | (refine awp_exit ?_; simp only [thenA, blockA, ↓reduceIte, Nat.reduceEqDiff, reduceCtorEq]) | refine awp_yes' (by simp only [go_sem, chAV, actAV, e1, e3, bne, Bool.true_beq, Bool.false_beq]; exact Is.rfl') ?_ | refine awp_no' (by simp only [go_sem, chAV, actAV, e1, e3, bne, Bool.true_beq, Bool.false_beq]; exact Is.rfl') ?_)
      (refine awp_ret ?_; show (resRd _ _ _).run _ = some _; simp only [go_sem, chAV, actAV, e1, e3, bne, Bool.true_beq, Bool.false_beq])
    · rw [Bool.true_and, Bool.true_and]
      repeat (first | refine aops_op' rfl (by simp only [go_sem, chAV, actAV, e1, e3, hco, bne, Bool.true_beq, Bool.false_beq]; exact ⟨rfl, rfl⟩) ?_ | refine g_run ?_ | refine g_off ?_ | refine aops_call' rfl (hcode) (by simp only [go_sem, chAV, actAV, e1, e3, hco, bne, Bool.true_beq, Bool.false_beq]; exact Is.rfl') (by simp only [go_sem, chAV, actAV, e1, e3, hco, bne, Bool.true_beq, Bool.false_beq]; exact ⟨rfl, rfl⟩) ?_ | refine aops_call' rfl (hname) (by simp only [go_sem, chAV, actAV, e1, e3, hco, bne, Bool.true_beq, Bool.false_beq]; exact Is.rfl') (by simp only [go_sem, chAV, actAV, e1, e3, hco, bne, Bool.true_beq, Bool.false_beq]; exact ⟨rfl, rfl⟩) ?_ | refine aops_nil (d_end ?_) | refine aops_nil ?_ | refine awp_seq ?_ | refine g_text ?_ | refine g_draw Tryd.mixed ?_ | refine awp_block ?_ | refine awp_skip ?_ | (refine awp_exit ?_; simp only [thenA, blockA, ↓reduceIte, Nat.reduceEqDiff, reduceCtorEq]) | refine awp_yes' (by simp only [go_sem, chAV, actAV, e1, e3, hco, bne, Bool.true_beq, Bool.false_beq]; exact Is.rfl') ?_ | refine awp_no' (by simp only [go_sem, chAV, actAV, e1, e3, hco, bne, Bool.true_beq, Bool.false_beq]; exact Is.rfl') ?_)
      (refine awp_ret ?_; show (resRd _ _ _).run _ = some _; simp only [go_sem, chAV, actAV, e1, e3, hco, bne, Bool.true_beq, Bool.false_beq])
  have hr : actB c.vars.length c.states.length ⟨k, n, m, co⟩ = false := by unfold actB; rw [if_neg hk1, if_neg (fun h => h.elim hk2 hk4), if_neg hk3, if_neg hk5]
  have b2 := ne_beq hk2
  have b4 := ne_beq hk4
  have b5 := ne_beq hk5
  rw [hr]
  by_cases h1 : k < 1
  · repeat (first | refine aops_op' rfl (by simp only [go_sem, chAV, actAV, h1, b2, b4, b5, bne, Bool.true_beq, Bool.false_beq]; exact ⟨rfl, rfl⟩) ?_ | refine g_run ?_ | refine g_off ?_ | refine aops_call' rfl (hcode) (by simp only [go_sem, chAV, actAV, h1, b2, b4, b5, bne, Bool.true_beq, Bool.false_beq]; exact Is.rfl') (by simp only [go_sem, chAV, actAV, h1, b2, b4, b5, bne, Bool.true_beq, Bool.false_beq]; exact ⟨rfl, rfl⟩) ?_ | refine aops_call' rfl (hname) (by simp only [go_sem, chAV, actAV, h1, b2, b4, b5, bne, Bool.true_beq, Bool.false_beq]; exact Is.rfl') (by simp only [go_sem, chAV, actAV, h1, b2, b4, b5, bne, Bool.true_beq, Bool.false_beq]; exact ⟨rfl, rfl⟩) ?_ | refine aops_nil (d_end ?_) | refine aops_nil ?_ | refine awp_seq ?_ | refine g_text ?_ | refine g_draw Tryd.mixed ?_ | refine awp_block ?_ | refine awp_skip ?_ | (refine awp_exit ?_; simp only [thenA, blockA, ↓reduceIte, Nat.reduceEqDiff, reduceCtorEq]) | refine awp_yes' (by simp only [go_sem, chAV, actAV, h1, b2, b4, b5, bne, Bool.true_beq, Bool.false_beq]; exact Is.rfl') ?_ | refine awp_no' (by simp only [go_sem, chAV, actAV, h1, b2, b4, b5, bne, Bool.true_beq, Bool.false_beq]; exact Is.rfl') ?_)
    (refine awp_ret ?_; show (resRd _ _ _).run _ = some _; simp only [go_sem, chAV, actAV, h1, b2, b4, b5, bne, Bool.true_beq, Bool.false_beq])
  have h2 : 5 < k := by omega
  repeat (first | refine aops_op' rfl (by simp only [go_sem, chAV, actAV, h1, h2, b2, b4, b5, bne, Bool.true_beq, Bool.false_beq]; exact ⟨rfl, rfl⟩) ?_ | refine g_run ?_ | refine g_off ?_ | refine aops_call' rfl (hcode) (by simp only [go_sem, chAV, actAV, h1, h2, b2, b4, b5, bne, Bool.true_beq, Bool.false_beq]; exact Is.rfl') (by simp only [go_sem, chAV, actAV, h1, h2, b2, b4, b5, bne, Bool.true_beq, Bool.false_beq]; exact ⟨rfl, rfl⟩) ?_ | refine aops_call' rfl (hname) (by simp only [go_sem, chAV, actAV, h1, h2, b2, b4, b5, bne, Bool.true_beq, Bool.false_beq]; exact Is.rfl') (by simp only [go_sem, chAV, actAV, h1, h2, b2, b4, b5, bne, Bool.true_beq, Bool.false_beq]; exact ⟨rfl, rfl⟩) ?_ | refine aops_nil (d_end ?_) | refine aops_nil ?_ | refine awp_seq ?_ | refine g_text ?_ | refine g_draw Tryd.mixed ?_ | refine awp_block ?_ | refine awp_skip ?_ | (refine awp_exit ?_; simp only [thenA, blockA, ↓reduceIte, Nat.reduceEqDiff, reduceCtorEq]) | refine awp_yes' (by simp only [go_sem, chAV, actAV, h1, h2, b2, b4, b5, bne, Bool.true_beq, Bool.false_beq]; exact Is.rfl') ?_ | refine awp_no' (by simp only [go_sem, chAV, actAV, h1, h2, b2, b4, b5, bne, Bool.true_beq, Bool.false_beq]; exact Is.rfl') ?_)
  (refine awp_ret ?_; show (resRd _ _ _).run _ = some _; simp only [go_sem, chAV, actAV, h1, h2, b2, b4, b5, bne, Bool.true_beq, Bool.false_beq])
theorem rActs_con (env : Env) (c : ChD) (l : List ActD) : Con Tryd.prog env 76 [.agg (chAV c), actsAV l] (B (actsB c.vars.length c.states.length l)) := by
  refine con_of_body Tryd.func76 rfl Tryd.call76 (by rw [Tryd.ntmps76]; simp) ?_
  rw [Tryd.ntmps76, Tryd.results76]
  by_cases hlen : 32 < l.length
  · have k0 : (32 : Int) < (l.length : Int) := by omega
    rw [show actsB c.vars.length c.states.length l = false by unfold actsB; rw [decide_eq_false (by omega)]; rfl]
    repeat (first | refine aops_op' rfl (by simp only [go_sem, chAV, k0]; exact ⟨rfl, rfl⟩) ?_ | refine g_run ?_ | refine g_off ?_ | refine aops_nil (d_end ?_) | refine aops_nil ?_ | refine awp_seq ?_ | refine g_text ?_ | refine g_draw Tryd.mixed ?_ | refine awp_block ?_ | refine awp_skip ?_ | (refine awp_exit ?_; simp only [thenA, blockA, ↓reduceIte, Nat.reduceEqDiff, reduceCtorEq]) | refine awp_yes' (by simp only [go_sem, chAV, k0]; exact Is.rfl') ?_ | refine awp_no' (by simp only [go_sem, chAV, k0]; exact Is.rfl') ?_)
    (refine awp_ret ?_; show (resRd _ _ _).run _ = some _; simp only [go_sem, chAV, k0])
  have k0 : ¬ (32 : Int) < (l.length : Int) := by omega
  rw [show actsB c.vars.length c.states.length l = l.all (actB c.vars.length c.states.length) by unfold actsB; rw [decide_eq_true (by omega)]; rfl]
  repeat (first | refine aops_op' rfl (by simp only [go_sem, chAV, k0]; exact ⟨rfl, rfl⟩) ?_ | refine g_run ?_ | refine g_off ?_ | refine aops_nil (d_end ?_) | refine aops_nil ?_ | refine awp_seq ?_ | refine g_text ?_ | refine g_draw Tryd.mixed ?_ | refine awp_block ?_ | refine awp_skip ?_ | (refine awp_exit ?_; simp only [thenA, blockA, ↓reduceIte, Nat.reduceEqDiff, reduceCtorEq]) | refine awp_yes' (by simp only [go_sem, chAV, k0]; exact Is.rfl') ?_ | refine awp_no' (by simp only [go_sem, chAV, k0]; exact Is.rfl') ?_)
  refine awp_loopH (D := Nat) (fun k vs => [(1, actsAV l), (2, .loc 2 (vs 2) 0 0), (5, I k)]) (fun _ _ => [(2, ⟨5, [chAV c], 26, false⟩)]) (fun k _ _ => k ≤ l.length ∧ (l.take k).all (actB c.vars.length c.states.length) = true) (fun k => l.length - k) 0 ?_ ?_ ?_ ?_
  · exact ⟨Nat.zero_le _, rfl⟩
  · (simp only [go_sem, chAV, k0])
  · (simp only [go_sem, chAV, k0])
  rintro k ws esc ⟨hk, hall⟩
  by_cases hlt : k < l.length
  · obtain ⟨a, hx, hm⟩ := some_at hlt
    have k1 := nlt hlt
    have k2 := wrap_succ hlt (by omega)
    have hact := rAct_con env c a
    cases h1 : actB c.vars.length c.states.length a with
    | true =>
      repeat (first | refine aops_op' rfl (by simp only [go_sem, chAV, k1, k2, hx, actAV, h1]; exact ⟨rfl, rfl⟩) ?_ | refine g_run ?_ | refine g_off ?_ | refine aops_call' rfl (hact) (by simp only [go_sem, chAV, k1, k2, hx, actAV, h1]; exact Is.rfl') (by simp only [go_sem, chAV, k1, k2, hx, actAV, h1]; exact ⟨rfl, rfl⟩) ?_ | refine aops_nil (d_end ?_) | refine aops_nil ?_ | refine awp_seq ?_ | refine g_text ?_ | refine g_draw Tryd.mixed ?_ | refine awp_block ?_ | refine awp_skip ?_ | (refine awp_exit ?_; simp only [thenA, blockA, ↓reduceIte, Nat.reduceEqDiff, reduceCtorEq]) | refine awp_yes' (by simp only [go_sem, chAV, k1, k2, hx, actAV, h1]; exact Is.rfl') ?_ | refine awp_no' (by simp only [go_sem, chAV, k1, k2, hx, actAV, h1]; exact Is.rfl') ?_)
      refine ⟨k + 1, ⟨hlt, all_take_step hall hx h1⟩, ?_, ?_, ?_⟩
      · (simp only [go_sem, chAV, k1, k2, hx, actAV, h1])
      · (simp only [go_sem, chAV, k1, k2, hx, actAV, h1])
      · omega
    | false =>
      rw [all_not hx h1]
      repeat (first | refine aops_op' rfl (by simp only [go_sem, chAV, k1, k2, hx, actAV, h1]; exact ⟨rfl, rfl⟩) ?_ | refine g_run ?_ | refine g_off ?_ | refine aops_call' rfl (hact) (by simp only [go_sem, chAV, k1, k2, hx, actAV, h1]; exact Is.rfl') (by simp only [go_sem, chAV, k1, k2, hx, actAV, h1]; exact ⟨rfl, rfl⟩) ?_ | refine aops_nil (d_end ?_) | refine aops_nil ?_ | refine awp_seq ?_ | refine g_text ?_ | refine g_draw Tryd.mixed ?_ | refine awp_block ?_ | refine awp_skip ?_ | (refine awp_exit ?_; simp only [thenA, blockA, ↓reduceIte, Nat.reduceEqDiff, reduceCtorEq]) | refine awp_yes' (by simp only [go_sem, chAV, k1, k2, hx, actAV, h1]; exact Is.rfl') ?_ | refine awp_no' (by simp only [go_sem, chAV, k1, k2, hx, actAV, h1]; exact Is.rfl') ?_)
      (refine awp_ret ?_; show (resRd _ _ _).run _ = some _; simp only [go_sem, chAV, k1, k2, hx, actAV, h1])
  · have k1 : ¬ (k : Int) < (l.length : Int) := by omega
    rw [all_end hall (by omega)]
    repeat (first | refine aops_op' rfl (by simp only [go_sem, chAV, k1]; exact ⟨rfl, rfl⟩) ?_ | refine g_run ?_ | refine g_off ?_ | refine aops_nil (d_end ?_) | refine aops_nil ?_ | refine awp_seq ?_ | refine g_text ?_ | refine g_draw Tryd.mixed ?_ | refine awp_block ?_ | refine awp_skip ?_ | (refine awp_exit ?_; simp only [thenA, blockA, ↓reduceIte, Nat.reduceEqDiff, reduceCtorEq]) | refine awp_yes' (by simp only [go_sem, chAV, k1]; exact Is.rfl') ?_ | refine awp_no' (by simp only [go_sem, chAV, k1]; exact Is.rfl') ?_)
    (refine awp_ret ?_; show (resRd _ _ _).run _ = some _; simp only [go_sem, chAV, k1])
theorem rUnder_con (env : Env) (c : ChD) (s : StD) (hp : s.parent < c.states.length) : Con Tryd.prog env 80 [.agg (chAV c), .agg (stAV s)] (B (plainB c s)) := by
  refine con_of_body Tryd.func80 rfl Tryd.call80 (by rw [Tryd.ntmps80]; simp) ?_
  rw [Tryd.ntmps80, Tryd.results80]
  by_cases h1 : 0 ≤ s.parent
  · obtain ⟨m, hm⟩ := nat_of h1
    obtain ⟨q, hq, _⟩ := some_at (show m < c.states.length by omega)
    have k1 := nlt (show m < c.states.length by omega)
    rw [show plainB c s = (q.kind == 1) by unfold plainB; rw [hm, at_nat, hq]]
    repeat (first | refine aops_op' rfl (by simp only [go_sem, chAV, stAV, hm, hq, k1]; exact ⟨rfl, rfl⟩) ?_ | refine g_run ?_ | refine g_off ?_ | refine aops_nil (d_end ?_) | refine aops_nil ?_ | refine awp_seq ?_ | refine g_text ?_ | refine g_draw Tryd.mixed ?_ | refine awp_block ?_ | refine awp_skip ?_ | (refine awp_exit ?_; simp only [thenA, blockA, ↓reduceIte, Nat.reduceEqDiff, reduceCtorEq]) | refine awp_yes' (by simp only [go_sem, chAV, stAV, hm, hq, k1]; exact Is.rfl') ?_ | refine awp_no' (by simp only [go_sem, chAV, stAV, hm, hq, k1]; exact Is.rfl') ?_)
    (refine awp_ret ?_; show (resRd _ _ _).run _ = some _; simp only [go_sem, chAV, stAV, hm, hq, k1])
  · rw [show plainB c s = false by unfold plainB at_; rw [if_neg h1]]
    repeat (first | refine aops_op' rfl (by simp only [go_sem, chAV, stAV, h1]; exact ⟨rfl, rfl⟩) ?_ | refine g_run ?_ | refine g_off ?_ | refine aops_nil (d_end ?_) | refine aops_nil ?_ | refine awp_seq ?_ | refine g_text ?_ | refine g_draw Tryd.mixed ?_ | refine awp_block ?_ | refine awp_skip ?_ | (refine awp_exit ?_; simp only [thenA, blockA, ↓reduceIte, Nat.reduceEqDiff, reduceCtorEq]) | refine awp_yes' (by simp only [go_sem, chAV, stAV, h1]; exact Is.rfl') ?_ | refine awp_no' (by simp only [go_sem, chAV, stAV, h1]; exact Is.rfl') ?_)
    (refine awp_ret ?_; show (resRd _ _ _).run _ = some _; simp only [go_sem, chAV, stAV, h1])
theorem rRegions_con (env : Env) (c : ChD) (l : List Nat) (hl : l.length ≤ 1000000) (hk : ∀ k ∈ l, k < c.states.length) : Con Tryd.prog env 79 [.agg (chAV c), nsAV l] (B ((l.all fun k => normAt c k) && decide (0 < l.length))) := by
  refine con_of_body Tryd.func79 rfl Tryd.call79 (by rw [Tryd.ntmps79]; simp) ?_
  rw [Tryd.ntmps79, Tryd.results79]
  repeat (first | refine aops_op' rfl (by simp only [go_sem, chAV]; exact ⟨rfl, rfl⟩) ?_ | refine g_run ?_ | refine g_off ?_ | refine aops_nil (d_end ?_) | refine aops_nil ?_ | refine awp_seq ?_ | refine g_text ?_ | refine g_draw Tryd.mixed ?_ | refine awp_block ?_ | refine awp_skip ?_ | (refine awp_exit ?_; simp only [thenA, blockA, ↓reduceIte, Nat.reduceEqDiff, reduceCtorEq]) | refine awp_yes' (by simp only [go_sem, chAV]; exact Is.rfl') ?_ | refine awp_no' (by simp only [go_sem, chAV]; exact Is.rfl') ?_)
  refine awp_loopH (D := Nat) (fun k vs => [(1, nsAV l), (2, .loc 2 (vs 2) 0 0), (5, I k)]) (fun _ _ => [(2, ⟨5, [chAV c], 26, false⟩)]) (fun k _ _ => k ≤ l.length ∧ (l.take k).all (fun k => normAt c k) = true) (fun k => l.length - k) 0 ?_ ?_ ?_ ?_
  · exact ⟨Nat.zero_le _, rfl⟩
  · (simp only [go_sem, chAV])
  · (simp only [go_sem, chAV])
  rintro j ws esc ⟨hj, hall⟩
  by_cases hlt : j < l.length
  · obtain ⟨k, hx, hm⟩ := some_at hlt
    obtain ⟨q, hq, _⟩ := some_at (hk k hm)
    have k1 := nlt hlt
    have k2 := wrap_succ hlt (by omega)
    have k3 := nlt (hk k hm)
    have hn := rNormal_con env q
    have hnq : normAt c (k : Int) = normB q := by unfold normAt; rw [at_nat, hq]
    cases h1 : normB q with
    | true =>
      repeat (first | refine aops_op' rfl (by simp only [go_sem, chAV, k1, k2, k3, hx, hq, natAV, stAV, h1]; exact ⟨rfl, rfl⟩) ?_ | refine g_run ?_ | refine g_off ?_ | refine aops_call' rfl (hn) (by simp only [go_sem, chAV, k1, k2, k3, hx, hq, natAV, stAV, h1]; exact Is.rfl') (by simp only [go_sem, chAV, k1, k2, k3, hx, hq, natAV, stAV, h1]; exact ⟨rfl, rfl⟩) ?_ | refine aops_nil (d_end ?_) | refine aops_nil ?_ | refine awp_seq ?_ | refine g_text ?_ | refine g_draw Tryd.mixed ?_ | refine awp_block ?_ | refine awp_skip ?_ | (refine awp_exit ?_; simp only [thenA, blockA, ↓reduceIte, Nat.reduceEqDiff, reduceCtorEq]) | refine awp_yes' (by simp only [go_sem, chAV, k1, k2, k3, hx, hq, natAV, stAV, h1]; exact Is.rfl') ?_ | refine awp_no' (by simp only [go_sem, chAV, k1, k2, k3, hx, hq, natAV, stAV, h1]; exact Is.rfl') ?_)
      refine ⟨j + 1, ⟨hlt, all_take_step (p := fun k : Nat => normAt c k) hall hx (hnq.trans h1)⟩, ?_, ?_, ?_⟩
      · (simp only [go_sem, chAV, k1, k2, k3, hx, hq, natAV, stAV, h1])
      · (simp only [go_sem, chAV, k1, k2, k3, hx, hq, natAV, stAV, h1])
      · omega
    | false =>
      rw [all_not (p := fun k : Nat => normAt c k) hx (hnq.trans h1), Bool.false_and]
      repeat (first | refine aops_op' rfl (by simp only [go_sem, chAV, k1, k2, k3, hx, hq, natAV, stAV, h1]; exact ⟨rfl, rfl⟩) ?_ | refine g_run ?_ | refine g_off ?_ | refine aops_call' rfl (hn) (by simp only [go_sem, chAV, k1, k2, k3, hx, hq, natAV, stAV, h1]; exact Is.rfl') (by simp only [go_sem, chAV, k1, k2, k3, hx, hq, natAV, stAV, h1]; exact ⟨rfl, rfl⟩) ?_ | refine aops_nil (d_end ?_) | refine aops_nil ?_ | refine awp_seq ?_ | refine g_text ?_ | refine g_draw Tryd.mixed ?_ | refine awp_block ?_ | refine awp_skip ?_ | (refine awp_exit ?_; simp only [thenA, blockA, ↓reduceIte, Nat.reduceEqDiff, reduceCtorEq]) | refine awp_yes' (by simp only [go_sem, chAV, k1, k2, k3, hx, hq, natAV, stAV, h1]; exact Is.rfl') ?_ | refine awp_no' (by simp only [go_sem, chAV, k1, k2, k3, hx, hq, natAV, stAV, h1]; exact Is.rfl') ?_)
      (refine awp_ret ?_; show (resRd _ _ _).run _ = some _; simp only [go_sem, chAV, k1, k2, k3, hx, hq, natAV, stAV, h1])
  · have k1 : ¬ (j : Int) < (l.length : Int) := by omega
    rw [all_end hall (by omega), Bool.true_and]
    have h3 : decide ((0 : Int) < (l.length : Int)) = decide (0 < l.length) := by rw [Bool.eq_iff_iff]; simp
    repeat (first | refine aops_op' rfl (by simp only [go_sem, chAV, k1]; exact ⟨rfl, rfl⟩) ?_ | refine g_run ?_ | refine g_off ?_ | refine aops_nil (d_end ?_) | refine aops_nil ?_ | refine awp_seq ?_ | refine g_text ?_ | refine g_draw Tryd.mixed ?_ | refine awp_block ?_ | refine awp_skip ?_ | (refine awp_exit ?_; simp only [thenA, blockA, ↓reduceIte, Nat.reduceEqDiff, reduceCtorEq]) | refine awp_yes' (by simp only [go_sem, chAV, k1]; exact Is.rfl') ?_ | refine awp_no' (by simp only [go_sem, chAV, k1]; exact Is.rfl') ?_)
    (refine awp_ret ?_; show (resRd _ _ _).run _ = some _; simp only [go_sem, chAV, k1])
    exact congrArg B h3
theorem rVar_con (env : Env) (c : ChD) (hn : c.vars.length ≤ 1000000) (i : Nat) (v : VarD) (hv : c.vars[i]? = some v) : Con Tryd.prog env 48 [.agg (chAV c), I i] (B (varB c i v)) := by
  have hi : i < c.vars.length := (List.getElem?_eq_some_iff.1 hv).1
  have k0 := nlt hi
  have f1 := w_name_con env v.name
  have f2 := rFits_con env v.start
  refine con_of_body Tryd.func48 rfl Tryd.call48 (by rw [Tryd.ntmps48]; simp) ?_
  rw [Tryd.ntmps48, Tryd.results48]
  repeat (first | refine aops_op' rfl (by simp only [go_sem, chAV, k0, hv, varAV]; exact ⟨rfl, rfl⟩) ?_ | refine g_run ?_ | refine g_off ?_ | refine aops_nil (d_end ?_) | refine aops_nil ?_ | refine awp_seq ?_ | refine g_text ?_ | refine g_draw Tryd.mixed ?_ | refine awp_block ?_ | refine awp_skip ?_ | (refine awp_exit ?_; simp only [thenA, blockA, ↓reduceIte, Nat.reduceEqDiff, reduceCtorEq]) | refine awp_yes' (by simp only [go_sem, chAV, k0, hv, varAV]; exact Is.rfl') ?_ | refine awp_no' (by simp only [go_sem, chAV, k0, hv, varAV]; exact Is.rfl') ?_)
  refine awp_loopH (D := Nat) (fun j vs => [(1, I i), (2, .loc 2 (vs 2) 0 0), (5, .loc 5 (vs 5) 0 0), (6, I j)]) (fun _ _ => [(2, ⟨5, [chAV c], 26, false⟩), (5, ⟨2, [varAV v], 47, false⟩)]) (fun j _ _ => j ≤ i ∧ newVar c v.name j = true) (fun j => i - j) 0 ?_ ?_ ?_ ?_
  · exact ⟨Nat.zero_le _, rfl⟩
  · (simp only [go_sem, chAV, k0, hv, varAV])
  · (simp only [go_sem, chAV, k0, hv, varAV])
  rintro j ws esc ⟨hj, hall⟩
  by_cases hlt : j < i
  · obtain ⟨x, hx, _⟩ := some_at (show j < c.vars.length by omega)
    have hx' : (c.vars.take i)[j]? = some x := by rw [List.getElem?_take, if_pos hlt]; exact hx
    have k1 := nlt hlt
    have k3 := nlt (show j < c.vars.length by omega)
    have k2 := wrap_succ hlt (by omega)
    cases e : (x.name == v.name)
    · repeat (first | refine aops_op' rfl (by simp only [go_sem, chAV, k1, k2, k3, hx, varAV, e]; exact ⟨rfl, rfl⟩) ?_ | refine g_run ?_ | refine g_off ?_ | refine aops_nil (d_end ?_) | refine aops_nil ?_ | refine awp_seq ?_ | refine g_text ?_ | refine g_draw Tryd.mixed ?_ | refine awp_block ?_ | refine awp_skip ?_ | (refine awp_exit ?_; simp only [thenA, blockA, ↓reduceIte, Nat.reduceEqDiff, reduceCtorEq]) | refine awp_yes' (by simp only [go_sem, chAV, k1, k2, k3, hx, varAV, e]; exact Is.rfl') ?_ | refine awp_no' (by simp only [go_sem, chAV, k1, k2, k3, hx, varAV, e]; exact Is.rfl') ?_)
      refine ⟨j + 1, ⟨hlt, newVar_step hall hx e⟩, ?_, ?_, ?_⟩
      · (simp only [go_sem, chAV, k1, k2, k3, hx, varAV, e])
      · (simp only [go_sem, chAV, k1, k2, k3, hx, varAV, e])
      · omega
    · rw [show varB c i v = false by unfold varB newVar; rw [all_not (p := fun x : VarD => !(x.name == v.name)) hx' (by rw [e]; rfl)]; rfl]
      repeat (first | refine aops_op' rfl (by simp only [go_sem, chAV, k1, k2, k3, hx, varAV, e]; exact ⟨rfl, rfl⟩) ?_ | refine g_run ?_ | refine g_off ?_ | refine aops_nil (d_end ?_) | refine aops_nil ?_ | refine awp_seq ?_ | refine g_text ?_ | refine g_draw Tryd.mixed ?_ | refine awp_block ?_ | refine awp_skip ?_ | (refine awp_exit ?_; simp only [thenA, blockA, ↓reduceIte, Nat.reduceEqDiff, reduceCtorEq]) | refine awp_yes' (by simp only [go_sem, chAV, k1, k2, k3, hx, varAV, e]; exact Is.rfl') ?_ | refine awp_no' (by simp only [go_sem, chAV, k1, k2, k3, hx, varAV, e]; exact Is.rfl') ?_)
      (refine awp_ret ?_; show (resRd _ _ _).run _ = some _; simp only [go_sem, chAV, k1, k2, k3, hx, varAV, e])
  · have k1 : ¬ (j : Int) < (i : Int) := by omega
    obtain rfl : j = i := by omega
    have hr : varB c j v = (nameB v.name && !(v.name == [100, 97, 116, 97]) && !(v.name == [105, 110]) && fitsB v.start) := by
      unfold varB fitsB
      rw [hall]
      simp only [Bool.true_and, Bool.and_assoc]
    rw [hr]
    cases e1 : nameB v.name
    · repeat (first | refine aops_op' rfl (by simp only [go_sem, k1, varAV, e1, bne]; exact ⟨rfl, rfl⟩) ?_ | refine g_run ?_ | refine g_off ?_ | refine aops_call' rfl (f1) (by simp only [go_sem, k1, varAV, e1, bne]; exact Is.rfl') (by simp only [go_sem, k1, varAV, e1, bne]; exact ⟨rfl, rfl⟩) ?_ | refine aops_call' rfl (f2) (by simp only [go_sem, k1, varAV, e1, bne]; exact Is.rfl') (by simp only [go_sem, k1, varAV, e1, bne]; exact ⟨rfl, rfl⟩) ?_ | refine aops_nil (d_end ?_) | refine aops_nil ?_ | refine awp_seq ?_ | refine g_text ?_ | refine g_draw Tryd.mixed ?_ | refine awp_block ?_ | refine awp_skip ?_ | (refine awp_exit ?_; simp only [thenA, blockA, ↓reduceIte, Nat.reduceEqDiff, reduceCtorEq]) | refine awp_yes' (by simp only [go_sem, k1, varAV, e1, bne]; exact Is.rfl') ?_ | refine awp_no' (by simp only [go_sem, k1, varAV, e1, bne]; exact Is.rfl') ?_)
      (refine awp_ret ?_; show (resRd _ _ _).run _ = some _; simp only [go_sem, k1, varAV, e1, bne])
    cases e2 : (v.name == [100, 97, 116, 97])
    · cases e3 : (v.name == [105, 110])
      · repeat (first | refine aops_op' rfl (by simp only [go_sem, k1, varAV, e1, e2, e3, bne]; exact ⟨rfl, rfl⟩) ?_ | refine g_run ?_ | refine g_off ?_ | refine aops_call' rfl (f1) (by simp only [go_sem, k1, varAV, e1, e2, e3, bne]; exact Is.rfl') (by simp only [go_sem, k1, varAV, e1, e2, e3, bne]; exact ⟨rfl, rfl⟩) ?_ | refine aops_call' rfl (f2) (by simp only [go_sem, k1, varAV, e1, e2, e3, bne]; exact Is.rfl') (by simp only [go_sem, k1, varAV, e1, e2, e3, bne]; exact ⟨rfl, rfl⟩) ?_ | refine aops_nil (d_end ?_) | refine aops_nil ?_ | refine awp_seq ?_ | refine g_text ?_ | refine g_draw Tryd.mixed ?_ | refine awp_block ?_ | refine awp_skip ?_ | (refine awp_exit ?_; simp only [thenA, blockA, ↓reduceIte, Nat.reduceEqDiff, reduceCtorEq]) | refine awp_yes' (by simp only [go_sem, k1, varAV, e1, e2, e3, bne]; exact Is.rfl') ?_ | refine awp_no' (by simp only [go_sem, k1, varAV, e1, e2, e3, bne]; exact Is.rfl') ?_)
        (refine awp_ret ?_; show (resRd _ _ _).run _ = some _; simp only [go_sem, k1, varAV, e1, e2, e3, bne])
      · repeat (first | refine aops_op' rfl (by simp only [go_sem, k1, varAV, e1, e2, e3, bne]; exact ⟨rfl, rfl⟩) ?_ | refine g_run ?_ | refine g_off ?_ | refine aops_call' rfl (f1) (by simp only [go_sem, k1, varAV, e1, e2, e3, bne]; exact Is.rfl') (by simp only [go_sem, k1, varAV, e1, e2, e3, bne]; exact ⟨rfl, rfl⟩) ?_ | refine aops_call' rfl (f2) (by simp only [go_sem, k1, varAV, e1, e2, e3, bne]; exact Is.rfl') (by simp only [go_sem, k1, varAV, e1, e2, e3, bne]; exact ⟨rfl, rfl⟩) ?_ | refine aops_nil (d_end ?_) | refine aops_nil ?_ | refine awp_seq ?_ | refine g_text ?_ | refine g_draw Tryd.mixed ?_ | refine awp_block ?_ | refine awp_skip ?_ | (refine awp_exit ?_; simp only [thenA, blockA, ↓reduceIte, Nat.reduceEqDiff, reduceCtorEq]) | refine awp_yes' (by simp only [go_sem, k1, varAV, e1, e2, e3, bne]; exact Is.rfl') ?_ | refine awp_no' (by simp only [go_sem, k1, varAV, e1, e2, e3, bne]; exact Is.rfl') ?_)
        (refine awp_ret ?_; show (resRd _ _ _).run _ = some _; simp only [go_sem, k1, varAV, e1, e2, e3, bne])
    · repeat (first | refine aops_op' rfl (by simp only [go_sem, k1, varAV, e1, e2, bne]; exact ⟨rfl, rfl⟩) ?_ | refine g_run ?_ | refine g_off ?_ | refine aops_call' rfl (f1) (by simp only [go_sem, k1, varAV, e1, e2, bne]; exact Is.rfl') (by simp only [go_sem, k1, varAV, e1, e2, bne]; exact ⟨rfl, rfl⟩) ?_ | refine aops_call' rfl (f2) (by simp only [go_sem, k1, varAV, e1, e2, bne]; exact Is.rfl') (by simp only [go_sem, k1, varAV, e1, e2, bne]; exact ⟨rfl, rfl⟩) ?_ | refine aops_nil (d_end ?_) | refine aops_nil ?_ | refine awp_seq ?_ | refine g_text ?_ | refine g_draw Tryd.mixed ?_ | refine awp_block ?_ | refine awp_skip ?_ | (refine awp_exit ?_; simp only [thenA, blockA, ↓reduceIte, Nat.reduceEqDiff, reduceCtorEq]) | refine awp_yes' (by simp only [go_sem, k1, varAV, e1, e2, bne]; exact Is.rfl') ?_ | refine awp_no' (by simp only [go_sem, k1, varAV, e1, e2, bne]; exact Is.rfl') ?_)
      (refine awp_ret ?_; show (resRd _ _ _).run _ = some _; simp only [go_sem, k1, varAV, e1, e2, bne])
end Go.Proofs.YtaggnpieofpphaaDoor
