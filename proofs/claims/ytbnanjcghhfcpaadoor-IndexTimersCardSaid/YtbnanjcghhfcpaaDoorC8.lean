/- The contract of scriniumref34.Right, by the walk without memory. -/
import Derived.Test.YtbnanjcghhfcpaaDoorCAB
set_option linter.unusedSimpArgs false
namespace Go.Proofs.YtbnanjcghhfcpaaDoor
open Go.RowKit
set_option maxRecDepth 100000
set_option maxHeartbeats 8000000
attribute [local go_sem_proc ↓] reduceIte
attribute [local go_sem_proc] reduceCtorEq Nat.reduceAdd Nat.reduceSub Nat.reduceEqDiff Nat.reduceLT Nat.reduceLeDiff Nat.reduceMul Int.reduceToNat Int.reduceBEq Int.reduceBNe Int.reduceEq Int.reduceLT Int.reduceLE
attribute [local go_sem] resRd resOne resAll HoldF HoldR Takes thenA blockA ev_move ev_assign ev_pick ev_alloc ev_box ev_build ev_buildSlice ev_load ev_store ev_binOp ev_unOp ev_convert ev_iface ev_make ev_slice ev_fieldAddr ev_field ev_indexAddr ev_index ev_extract ev_len ev_append ev_min ev_max evMin evMax gt_tmp gt_int gt_bool gt_str gt_nilS gt_nilP gt_nilI pickRd allocRd buildRd sliceRd loadRd unRd ifaceRd exRd val optRd callRd seen AV.plain adopt fzArgs Rd.run AV.asCells newBox runL Comes' Rd.row Rd.bind Out.app apps Eff.app St.renew St.setRow St.show St.put St.init upd evStore evBin eqFs eqCell evConv evSeq evLen evIndexAddr evFieldAddr evField evIndex bound evSlice evAppend evMake loadOf fillAV fillEs fzParts fz fzCell fzCells shows isConstOp splice wrs wes Value.oneCell' List.getD_cons_zero List.getD_cons_succ List.getD_nil List.length_cons List.length_nil List.map_cons List.map_nil List.nil_append List.cons_append List.all_cons List.all_nil List.getElem?_cons_zero List.getElem?_cons_succ List.set_cons_zero List.set_cons_succ List.take_succ_cons List.take_zero List.drop_succ_cons List.drop_zero List.take_nil List.drop_nil List.replicate_succ List.replicate_zero Bool.and_true Bool.true_and Bool.and_self and_self true_and and_true Nat.zero_add Nat.add_zero Option.some.injEq Nat.zero_lt_succ Bool.not_true Bool.not_false ne_eq not_true_eq_false not_false_eq_true Option.map_some Option.map_none List.toList_toArray head headF headR List.length_map Int.toNat_natCast Int.natCast_nonneg List.getElem?_map decide_true decide_false Bool.false_eq_true if_true if_false Bool.or_self Bool.or_true Bool.true_or Bool.false_or Bool.or_false Bool.and_false Bool.false_and List.flatten_cons List.flatten_nil List.append_nil nat0 or_self or_false false_or or_true true_or and_false false_and List.length_append List.isEmpty_nil bne_self_eq_false beq_self_eq_true fits_small strL_l bytesOf_map wants Int.cast_ofNat_Int gt_iff_lt ge_iff_le
attribute [local go_sem ←] List.map_drop List.map_take

theorem w_rightR_con (env : Env) (r : Rc) (hl : Lite r) : Con Tryd.prog env 14 [.agg (recAV r)] (B (rightB r)) := by
  refine con_of_body Tryd.func14 rfl Tryd.call14 (by rw [Tryd.ntmps14]; simp) ?_
  rw [Tryd.ntmps14, Tryd.results14]
  obtain ⟨l1, l2, l3, l4, l5⟩ := hl
  by_cases h1 : (decide (1 ≤ r.chart) && decide (r.chart ≤ 2147483647)) = true
  case neg =>
    have h1 : (decide (1 ≤ r.chart) && decide (r.chart ≤ 2147483647)) = false := by simpa using h1
    have hr : rightB r = false := by simp only [rightB, headB, le_split, h1, Bool.false_and]
    rw [hr]
    repeat (first | refine aops_op' rfl (by simp only [go_sem, recAV, h1]; exact ⟨rfl, rfl⟩) ?_ | refine g_run ?_ | refine g_off ?_ | refine aops_nil (d_end ?_) | refine aops_nil ?_ | refine awp_seq ?_ | refine g_text ?_ | refine g_draw Tryd.mixed ?_ | refine awp_block ?_ | refine awp_skip ?_ | (refine awp_exit ?_; simp only [thenA, blockA, ↓reduceIte, Nat.reduceEqDiff, reduceCtorEq]))
    refine aops_call' rfl (w_between_con env r.chart 1 2147483647) (by simp only [go_sem, recAV, h1]; exact Is.rfl') (by simp only [go_sem, recAV, h1]; exact ⟨rfl, rfl⟩) ?_
    repeat (first | refine aops_op' rfl (by simp only [go_sem, recAV, h1]; exact ⟨rfl, rfl⟩) ?_ | refine g_run ?_ | refine g_off ?_ | refine aops_nil (d_end ?_) | refine aops_nil ?_ | refine awp_seq ?_ | refine g_text ?_ | refine g_draw Tryd.mixed ?_ | refine awp_block ?_ | refine awp_skip ?_ | (refine awp_exit ?_; simp only [thenA, blockA, ↓reduceIte, Nat.reduceEqDiff, reduceCtorEq]))
    refine awp_yes' (by simp only [go_sem, recAV, h1]; exact Is.rfl') ?_
    repeat (first | refine aops_op' rfl (by simp only [go_sem, recAV, h1]; exact ⟨rfl, rfl⟩) ?_ | refine g_run ?_ | refine g_off ?_ | refine aops_nil (d_end ?_) | refine aops_nil ?_ | refine awp_seq ?_ | refine g_text ?_ | refine g_draw Tryd.mixed ?_ | refine awp_block ?_ | refine awp_skip ?_ | (refine awp_exit ?_; simp only [thenA, blockA, ↓reduceIte, Nat.reduceEqDiff, reduceCtorEq]))
    (refine awp_ret ?_; show (resRd _ _ _).run _ = some _; simp only [go_sem, recAV, h1])
  by_cases h2 : (decide (0 ≤ r.born) && decide (r.born ≤ 1099511627776)) = true
  case neg =>
    have h2 : (decide (0 ≤ r.born) && decide (r.born ≤ 1099511627776)) = false := by simpa using h2
    have hr : rightB r = false := by simp only [rightB, headB, clkB, le_split, h1, h2, Bool.false_and, Bool.and_false]
    rw [hr]
    repeat (first | refine aops_op' rfl (by simp only [go_sem, recAV, h1, h2]; exact ⟨rfl, rfl⟩) ?_ | refine g_run ?_ | refine g_off ?_ | refine aops_nil (d_end ?_) | refine aops_nil ?_ | refine awp_seq ?_ | refine g_text ?_ | refine g_draw Tryd.mixed ?_ | refine awp_block ?_ | refine awp_skip ?_ | (refine awp_exit ?_; simp only [thenA, blockA, ↓reduceIte, Nat.reduceEqDiff, reduceCtorEq]))
    refine aops_call' rfl (w_between_con env r.chart 1 2147483647) (by simp only [go_sem, recAV, h1, h2]; exact Is.rfl') (by simp only [go_sem, recAV, h1, h2]; exact ⟨rfl, rfl⟩) ?_
    repeat (first | refine aops_op' rfl (by simp only [go_sem, recAV, h1, h2]; exact ⟨rfl, rfl⟩) ?_ | refine g_run ?_ | refine g_off ?_ | refine aops_nil (d_end ?_) | refine aops_nil ?_ | refine awp_seq ?_ | refine g_text ?_ | refine g_draw Tryd.mixed ?_ | refine awp_block ?_ | refine awp_skip ?_ | (refine awp_exit ?_; simp only [thenA, blockA, ↓reduceIte, Nat.reduceEqDiff, reduceCtorEq]))
    refine aops_call' rfl (w_between_con env r.born 0 1099511627776) (by simp only [go_sem, recAV, h1, h2]; exact Is.rfl') (by simp only [go_sem, recAV, h1, h2]; exact ⟨rfl, rfl⟩) ?_
    repeat (first | refine aops_op' rfl (by simp only [go_sem, recAV, h1, h2]; exact ⟨rfl, rfl⟩) ?_ | refine g_run ?_ | refine g_off ?_ | refine aops_nil (d_end ?_) | refine aops_nil ?_ | refine awp_seq ?_ | refine g_text ?_ | refine g_draw Tryd.mixed ?_ | refine awp_block ?_ | refine awp_skip ?_ | (refine awp_exit ?_; simp only [thenA, blockA, ↓reduceIte, Nat.reduceEqDiff, reduceCtorEq]))
    refine awp_yes' (by simp only [go_sem, recAV, h1, h2]; exact Is.rfl') ?_
    repeat (first | refine aops_op' rfl (by simp only [go_sem, recAV, h1, h2]; exact ⟨rfl, rfl⟩) ?_ | refine g_run ?_ | refine g_off ?_ | refine aops_nil (d_end ?_) | refine aops_nil ?_ | refine awp_seq ?_ | refine g_text ?_ | refine g_draw Tryd.mixed ?_ | refine awp_block ?_ | refine awp_skip ?_ | (refine awp_exit ?_; simp only [thenA, blockA, ↓reduceIte, Nat.reduceEqDiff, reduceCtorEq]))
    (refine awp_ret ?_; show (resRd _ _ _).run _ = some _; simp only [go_sem, recAV, h1, h2])
  by_cases h3 : (decide (0 ≤ r.steps) && decide (r.steps ≤ 1099511627776)) = true
  case neg =>
    have h3 : (decide (0 ≤ r.steps) && decide (r.steps ≤ 1099511627776)) = false := by simpa using h3
    have hr : rightB r = false := by simp only [rightB, headB, clkB, le_split, h1, h2, h3, Bool.false_and, Bool.and_false]
    rw [hr]
    repeat (first | refine aops_op' rfl (by simp only [go_sem, recAV, h1, h2, h3]; exact ⟨rfl, rfl⟩) ?_ | refine g_run ?_ | refine g_off ?_ | refine aops_nil (d_end ?_) | refine aops_nil ?_ | refine awp_seq ?_ | refine g_text ?_ | refine g_draw Tryd.mixed ?_ | refine awp_block ?_ | refine awp_skip ?_ | (refine awp_exit ?_; simp only [thenA, blockA, ↓reduceIte, Nat.reduceEqDiff, reduceCtorEq]))
    refine aops_call' rfl (w_between_con env r.chart 1 2147483647) (by simp only [go_sem, recAV, h1, h2, h3]; exact Is.rfl') (by simp only [go_sem, recAV, h1, h2, h3]; exact ⟨rfl, rfl⟩) ?_
    repeat (first | refine aops_op' rfl (by simp only [go_sem, recAV, h1, h2, h3]; exact ⟨rfl, rfl⟩) ?_ | refine g_run ?_ | refine g_off ?_ | refine aops_nil (d_end ?_) | refine aops_nil ?_ | refine awp_seq ?_ | refine g_text ?_ | refine g_draw Tryd.mixed ?_ | refine awp_block ?_ | refine awp_skip ?_ | (refine awp_exit ?_; simp only [thenA, blockA, ↓reduceIte, Nat.reduceEqDiff, reduceCtorEq]))
    refine aops_call' rfl (w_between_con env r.born 0 1099511627776) (by simp only [go_sem, recAV, h1, h2, h3]; exact Is.rfl') (by simp only [go_sem, recAV, h1, h2, h3]; exact ⟨rfl, rfl⟩) ?_
    repeat (first | refine aops_op' rfl (by simp only [go_sem, recAV, h1, h2, h3]; exact ⟨rfl, rfl⟩) ?_ | refine g_run ?_ | refine g_off ?_ | refine aops_nil (d_end ?_) | refine aops_nil ?_ | refine awp_seq ?_ | refine g_text ?_ | refine g_draw Tryd.mixed ?_ | refine awp_block ?_ | refine awp_skip ?_ | (refine awp_exit ?_; simp only [thenA, blockA, ↓reduceIte, Nat.reduceEqDiff, reduceCtorEq]))
    refine aops_call' rfl (w_between_con env r.steps 0 1099511627776) (by simp only [go_sem, recAV, h1, h2, h3]; exact Is.rfl') (by simp only [go_sem, recAV, h1, h2, h3]; exact ⟨rfl, rfl⟩) ?_
    repeat (first | refine aops_op' rfl (by simp only [go_sem, recAV, h1, h2, h3]; exact ⟨rfl, rfl⟩) ?_ | refine g_run ?_ | refine g_off ?_ | refine aops_nil (d_end ?_) | refine aops_nil ?_ | refine awp_seq ?_ | refine g_text ?_ | refine g_draw Tryd.mixed ?_ | refine awp_block ?_ | refine awp_skip ?_ | (refine awp_exit ?_; simp only [thenA, blockA, ↓reduceIte, Nat.reduceEqDiff, reduceCtorEq]))
    refine awp_yes' (by simp only [go_sem, recAV, h1, h2, h3]; exact Is.rfl') ?_
    repeat (first | refine aops_op' rfl (by simp only [go_sem, recAV, h1, h2, h3]; exact ⟨rfl, rfl⟩) ?_ | refine g_run ?_ | refine g_off ?_ | refine aops_nil (d_end ?_) | refine aops_nil ?_ | refine awp_seq ?_ | refine g_text ?_ | refine g_draw Tryd.mixed ?_ | refine awp_block ?_ | refine awp_skip ?_ | (refine awp_exit ?_; simp only [thenA, blockA, ↓reduceIte, Nat.reduceEqDiff, reduceCtorEq]))
    (refine awp_ret ?_; show (resRd _ _ _).run _ = some _; simp only [go_sem, recAV, h1, h2, h3])
  have hh : headB r = true := by simp only [headB, clkB, le_split, h1, h2, h3, Bool.true_and]
  by_cases h4 : statesB r.active = true
  case neg =>
    have h4 : statesB r.active = false := by simpa using h4
    have hr : rightB r = false := by simp only [rightB, h4, Bool.false_and, Bool.and_false]
    rw [hr]
    repeat (first | refine aops_op' rfl (by simp only [go_sem, recAV, h1, h2, h3, h4]; exact ⟨rfl, rfl⟩) ?_ | refine g_run ?_ | refine g_off ?_ | refine aops_nil (d_end ?_) | refine aops_nil ?_ | refine awp_seq ?_ | refine g_text ?_ | refine g_draw Tryd.mixed ?_ | refine awp_block ?_ | refine awp_skip ?_ | (refine awp_exit ?_; simp only [thenA, blockA, ↓reduceIte, Nat.reduceEqDiff, reduceCtorEq]))
    refine aops_call' rfl (w_between_con env r.chart 1 2147483647) (by simp only [go_sem, recAV, h1, h2, h3, h4]; exact Is.rfl') (by simp only [go_sem, recAV, h1, h2, h3, h4]; exact ⟨rfl, rfl⟩) ?_
    repeat (first | refine aops_op' rfl (by simp only [go_sem, recAV, h1, h2, h3, h4]; exact ⟨rfl, rfl⟩) ?_ | refine g_run ?_ | refine g_off ?_ | refine aops_nil (d_end ?_) | refine aops_nil ?_ | refine awp_seq ?_ | refine g_text ?_ | refine g_draw Tryd.mixed ?_ | refine awp_block ?_ | refine awp_skip ?_ | (refine awp_exit ?_; simp only [thenA, blockA, ↓reduceIte, Nat.reduceEqDiff, reduceCtorEq]))
    refine aops_call' rfl (w_between_con env r.born 0 1099511627776) (by simp only [go_sem, recAV, h1, h2, h3, h4]; exact Is.rfl') (by simp only [go_sem, recAV, h1, h2, h3, h4]; exact ⟨rfl, rfl⟩) ?_
    repeat (first | refine aops_op' rfl (by simp only [go_sem, recAV, h1, h2, h3, h4]; exact ⟨rfl, rfl⟩) ?_ | refine g_run ?_ | refine g_off ?_ | refine aops_nil (d_end ?_) | refine aops_nil ?_ | refine awp_seq ?_ | refine g_text ?_ | refine g_draw Tryd.mixed ?_ | refine awp_block ?_ | refine awp_skip ?_ | (refine awp_exit ?_; simp only [thenA, blockA, ↓reduceIte, Nat.reduceEqDiff, reduceCtorEq]))
    refine aops_call' rfl (w_between_con env r.steps 0 1099511627776) (by simp only [go_sem, recAV, h1, h2, h3, h4]; exact Is.rfl') (by simp only [go_sem, recAV, h1, h2, h3, h4]; exact ⟨rfl, rfl⟩) ?_
    repeat (first | refine aops_op' rfl (by simp only [go_sem, recAV, h1, h2, h3, h4]; exact ⟨rfl, rfl⟩) ?_ | refine g_run ?_ | refine g_off ?_ | refine aops_nil (d_end ?_) | refine aops_nil ?_ | refine awp_seq ?_ | refine g_text ?_ | refine g_draw Tryd.mixed ?_ | refine awp_block ?_ | refine awp_skip ?_ | (refine awp_exit ?_; simp only [thenA, blockA, ↓reduceIte, Nat.reduceEqDiff, reduceCtorEq]))
    refine aops_call' rfl (w_states_con env r.active l1) (by simp only [go_sem, recAV, h1, h2, h3, h4]; exact Is.rfl') (by simp only [go_sem, recAV, h1, h2, h3, h4]; exact ⟨rfl, rfl⟩) ?_
    repeat (first | refine aops_op' rfl (by simp only [go_sem, recAV, h1, h2, h3, h4]; exact ⟨rfl, rfl⟩) ?_ | refine g_run ?_ | refine g_off ?_ | refine aops_nil (d_end ?_) | refine aops_nil ?_ | refine awp_seq ?_ | refine g_text ?_ | refine g_draw Tryd.mixed ?_ | refine awp_block ?_ | refine awp_skip ?_ | (refine awp_exit ?_; simp only [thenA, blockA, ↓reduceIte, Nat.reduceEqDiff, reduceCtorEq]))
    refine awp_yes' (by simp only [go_sem, recAV, h1, h2, h3, h4]; exact Is.rfl') ?_
    repeat (first | refine aops_op' rfl (by simp only [go_sem, recAV, h1, h2, h3, h4]; exact ⟨rfl, rfl⟩) ?_ | refine g_run ?_ | refine g_off ?_ | refine aops_nil (d_end ?_) | refine aops_nil ?_ | refine awp_seq ?_ | refine g_text ?_ | refine g_draw Tryd.mixed ?_ | refine awp_block ?_ | refine awp_skip ?_ | (refine awp_exit ?_; simp only [thenA, blockA, ↓reduceIte, Nat.reduceEqDiff, reduceCtorEq]))
    (refine awp_ret ?_; show (resRd _ _ _).run _ = some _; simp only [go_sem, recAV, h1, h2, h3, h4])
  by_cases h5 : r.vars.length ≤ 8
  case neg =>
    have g5 : 8 < (r.vars.length : Int) := by omega
    have hr : rightB r = false := by simp only [rightB, varsB, decide_eq_false h5, Bool.false_and, Bool.and_false]
    rw [hr]
    repeat (first | refine aops_op' rfl (by simp only [go_sem, recAV, h1, h2, h3, h4, g5]; exact ⟨rfl, rfl⟩) ?_ | refine g_run ?_ | refine g_off ?_ | refine aops_nil (d_end ?_) | refine aops_nil ?_ | refine awp_seq ?_ | refine g_text ?_ | refine g_draw Tryd.mixed ?_ | refine awp_block ?_ | refine awp_skip ?_ | (refine awp_exit ?_; simp only [thenA, blockA, ↓reduceIte, Nat.reduceEqDiff, reduceCtorEq]))
    refine aops_call' rfl (w_between_con env r.chart 1 2147483647) (by simp only [go_sem, recAV, h1, h2, h3, h4, g5]; exact Is.rfl') (by simp only [go_sem, recAV, h1, h2, h3, h4, g5]; exact ⟨rfl, rfl⟩) ?_
    repeat (first | refine aops_op' rfl (by simp only [go_sem, recAV, h1, h2, h3, h4, g5]; exact ⟨rfl, rfl⟩) ?_ | refine g_run ?_ | refine g_off ?_ | refine aops_nil (d_end ?_) | refine aops_nil ?_ | refine awp_seq ?_ | refine g_text ?_ | refine g_draw Tryd.mixed ?_ | refine awp_block ?_ | refine awp_skip ?_ | (refine awp_exit ?_; simp only [thenA, blockA, ↓reduceIte, Nat.reduceEqDiff, reduceCtorEq]))
    refine aops_call' rfl (w_between_con env r.born 0 1099511627776) (by simp only [go_sem, recAV, h1, h2, h3, h4, g5]; exact Is.rfl') (by simp only [go_sem, recAV, h1, h2, h3, h4, g5]; exact ⟨rfl, rfl⟩) ?_
    repeat (first | refine aops_op' rfl (by simp only [go_sem, recAV, h1, h2, h3, h4, g5]; exact ⟨rfl, rfl⟩) ?_ | refine g_run ?_ | refine g_off ?_ | refine aops_nil (d_end ?_) | refine aops_nil ?_ | refine awp_seq ?_ | refine g_text ?_ | refine g_draw Tryd.mixed ?_ | refine awp_block ?_ | refine awp_skip ?_ | (refine awp_exit ?_; simp only [thenA, blockA, ↓reduceIte, Nat.reduceEqDiff, reduceCtorEq]))
    refine aops_call' rfl (w_between_con env r.steps 0 1099511627776) (by simp only [go_sem, recAV, h1, h2, h3, h4, g5]; exact Is.rfl') (by simp only [go_sem, recAV, h1, h2, h3, h4, g5]; exact ⟨rfl, rfl⟩) ?_
    repeat (first | refine aops_op' rfl (by simp only [go_sem, recAV, h1, h2, h3, h4, g5]; exact ⟨rfl, rfl⟩) ?_ | refine g_run ?_ | refine g_off ?_ | refine aops_nil (d_end ?_) | refine aops_nil ?_ | refine awp_seq ?_ | refine g_text ?_ | refine g_draw Tryd.mixed ?_ | refine awp_block ?_ | refine awp_skip ?_ | (refine awp_exit ?_; simp only [thenA, blockA, ↓reduceIte, Nat.reduceEqDiff, reduceCtorEq]))
    refine aops_call' rfl (w_states_con env r.active l1) (by simp only [go_sem, recAV, h1, h2, h3, h4, g5]; exact Is.rfl') (by simp only [go_sem, recAV, h1, h2, h3, h4, g5]; exact ⟨rfl, rfl⟩) ?_
    repeat (first | refine aops_op' rfl (by simp only [go_sem, recAV, h1, h2, h3, h4, g5]; exact ⟨rfl, rfl⟩) ?_ | refine g_run ?_ | refine g_off ?_ | refine aops_nil (d_end ?_) | refine aops_nil ?_ | refine awp_seq ?_ | refine g_text ?_ | refine g_draw Tryd.mixed ?_ | refine awp_block ?_ | refine awp_skip ?_ | (refine awp_exit ?_; simp only [thenA, blockA, ↓reduceIte, Nat.reduceEqDiff, reduceCtorEq]))
    refine awp_yes' (by simp only [go_sem, recAV, h1, h2, h3, h4, g5]; exact Is.rfl') ?_
    repeat (first | refine aops_op' rfl (by simp only [go_sem, recAV, h1, h2, h3, h4, g5]; exact ⟨rfl, rfl⟩) ?_ | refine g_run ?_ | refine g_off ?_ | refine aops_nil (d_end ?_) | refine aops_nil ?_ | refine awp_seq ?_ | refine g_text ?_ | refine g_draw Tryd.mixed ?_ | refine awp_block ?_ | refine awp_skip ?_ | (refine awp_exit ?_; simp only [thenA, blockA, ↓reduceIte, Nat.reduceEqDiff, reduceCtorEq]))
    (refine awp_ret ?_; show (resRd _ _ _).run _ = some _; simp only [go_sem, recAV, h1, h2, h3, h4, g5])
  have g5 : ¬ 8 < (r.vars.length : Int) := by omega
  by_cases h6 : r.timers.length ≤ 8
  case neg =>
    have g6 : 8 < (r.timers.length : Int) := by omega
    have hr : rightB r = false := by simp only [rightB, timersB, decide_eq_false h6, Bool.false_and, Bool.and_false]
    rw [hr]
    repeat (first | refine aops_op' rfl (by simp only [go_sem, recAV, h1, h2, h3, h4, g5, g6]; exact ⟨rfl, rfl⟩) ?_ | refine g_run ?_ | refine g_off ?_ | refine aops_nil (d_end ?_) | refine aops_nil ?_ | refine awp_seq ?_ | refine g_text ?_ | refine g_draw Tryd.mixed ?_ | refine awp_block ?_ | refine awp_skip ?_ | (refine awp_exit ?_; simp only [thenA, blockA, ↓reduceIte, Nat.reduceEqDiff, reduceCtorEq]))
    refine aops_call' rfl (w_between_con env r.chart 1 2147483647) (by simp only [go_sem, recAV, h1, h2, h3, h4, g5, g6]; exact Is.rfl') (by simp only [go_sem, recAV, h1, h2, h3, h4, g5, g6]; exact ⟨rfl, rfl⟩) ?_
    repeat (first | refine aops_op' rfl (by simp only [go_sem, recAV, h1, h2, h3, h4, g5, g6]; exact ⟨rfl, rfl⟩) ?_ | refine g_run ?_ | refine g_off ?_ | refine aops_nil (d_end ?_) | refine aops_nil ?_ | refine awp_seq ?_ | refine g_text ?_ | refine g_draw Tryd.mixed ?_ | refine awp_block ?_ | refine awp_skip ?_ | (refine awp_exit ?_; simp only [thenA, blockA, ↓reduceIte, Nat.reduceEqDiff, reduceCtorEq]))
    refine aops_call' rfl (w_between_con env r.born 0 1099511627776) (by simp only [go_sem, recAV, h1, h2, h3, h4, g5, g6]; exact Is.rfl') (by simp only [go_sem, recAV, h1, h2, h3, h4, g5, g6]; exact ⟨rfl, rfl⟩) ?_
    repeat (first | refine aops_op' rfl (by simp only [go_sem, recAV, h1, h2, h3, h4, g5, g6]; exact ⟨rfl, rfl⟩) ?_ | refine g_run ?_ | refine g_off ?_ | refine aops_nil (d_end ?_) | refine aops_nil ?_ | refine awp_seq ?_ | refine g_text ?_ | refine g_draw Tryd.mixed ?_ | refine awp_block ?_ | refine awp_skip ?_ | (refine awp_exit ?_; simp only [thenA, blockA, ↓reduceIte, Nat.reduceEqDiff, reduceCtorEq]))
    refine aops_call' rfl (w_between_con env r.steps 0 1099511627776) (by simp only [go_sem, recAV, h1, h2, h3, h4, g5, g6]; exact Is.rfl') (by simp only [go_sem, recAV, h1, h2, h3, h4, g5, g6]; exact ⟨rfl, rfl⟩) ?_
    repeat (first | refine aops_op' rfl (by simp only [go_sem, recAV, h1, h2, h3, h4, g5, g6]; exact ⟨rfl, rfl⟩) ?_ | refine g_run ?_ | refine g_off ?_ | refine aops_nil (d_end ?_) | refine aops_nil ?_ | refine awp_seq ?_ | refine g_text ?_ | refine g_draw Tryd.mixed ?_ | refine awp_block ?_ | refine awp_skip ?_ | (refine awp_exit ?_; simp only [thenA, blockA, ↓reduceIte, Nat.reduceEqDiff, reduceCtorEq]))
    refine aops_call' rfl (w_states_con env r.active l1) (by simp only [go_sem, recAV, h1, h2, h3, h4, g5, g6]; exact Is.rfl') (by simp only [go_sem, recAV, h1, h2, h3, h4, g5, g6]; exact ⟨rfl, rfl⟩) ?_
    repeat (first | refine aops_op' rfl (by simp only [go_sem, recAV, h1, h2, h3, h4, g5, g6]; exact ⟨rfl, rfl⟩) ?_ | refine g_run ?_ | refine g_off ?_ | refine aops_nil (d_end ?_) | refine aops_nil ?_ | refine awp_seq ?_ | refine g_text ?_ | refine g_draw Tryd.mixed ?_ | refine awp_block ?_ | refine awp_skip ?_ | (refine awp_exit ?_; simp only [thenA, blockA, ↓reduceIte, Nat.reduceEqDiff, reduceCtorEq]))
    refine awp_yes' (by simp only [go_sem, recAV, h1, h2, h3, h4, g5, g6]; exact Is.rfl') ?_
    repeat (first | refine aops_op' rfl (by simp only [go_sem, recAV, h1, h2, h3, h4, g5, g6]; exact ⟨rfl, rfl⟩) ?_ | refine g_run ?_ | refine g_off ?_ | refine aops_nil (d_end ?_) | refine aops_nil ?_ | refine awp_seq ?_ | refine g_text ?_ | refine g_draw Tryd.mixed ?_ | refine awp_block ?_ | refine awp_skip ?_ | (refine awp_exit ?_; simp only [thenA, blockA, ↓reduceIte, Nat.reduceEqDiff, reduceCtorEq]))
    (refine awp_ret ?_; show (resRd _ _ _).run _ = some _; simp only [go_sem, recAV, h1, h2, h3, h4, g5, g6])
  have g6 : ¬ 8 < (r.timers.length : Int) := by omega
  have hr : rightB r = (allB r.vars.length (varAt r.vars) && (memsB r.mem && allB r.timers.length (tmAt r.timers))) := by
    simp only [rightB, hh, h4, varsB, timersB, decide_eq_true h5, decide_eq_true h6, Bool.true_and, Bool.and_true, Bool.and_assoc]
  rw [hr]
  repeat (first | refine aops_op' rfl (by simp only [go_sem, recAV, h1, h2, h3, h4, g5, g6]; exact ⟨rfl, rfl⟩) ?_ | refine g_run ?_ | refine g_off ?_ | refine aops_nil (d_end ?_) | refine aops_nil ?_ | refine awp_seq ?_ | refine g_text ?_ | refine g_draw Tryd.mixed ?_ | refine awp_block ?_ | refine awp_skip ?_ | (refine awp_exit ?_; simp only [thenA, blockA, ↓reduceIte, Nat.reduceEqDiff, reduceCtorEq]))
  refine aops_call' rfl (w_between_con env r.chart 1 2147483647) (by simp only [go_sem, recAV, h1, h2, h3, h4, g5, g6]; exact Is.rfl') (by simp only [go_sem, recAV, h1, h2, h3, h4, g5, g6]; exact ⟨rfl, rfl⟩) ?_
  repeat (first | refine aops_op' rfl (by simp only [go_sem, recAV, h1, h2, h3, h4, g5, g6]; exact ⟨rfl, rfl⟩) ?_ | refine g_run ?_ | refine g_off ?_ | refine aops_nil (d_end ?_) | refine aops_nil ?_ | refine awp_seq ?_ | refine g_text ?_ | refine g_draw Tryd.mixed ?_ | refine awp_block ?_ | refine awp_skip ?_ | (refine awp_exit ?_; simp only [thenA, blockA, ↓reduceIte, Nat.reduceEqDiff, reduceCtorEq]))
  refine aops_call' rfl (w_between_con env r.born 0 1099511627776) (by simp only [go_sem, recAV, h1, h2, h3, h4, g5, g6]; exact Is.rfl') (by simp only [go_sem, recAV, h1, h2, h3, h4, g5, g6]; exact ⟨rfl, rfl⟩) ?_
  repeat (first | refine aops_op' rfl (by simp only [go_sem, recAV, h1, h2, h3, h4, g5, g6]; exact ⟨rfl, rfl⟩) ?_ | refine g_run ?_ | refine g_off ?_ | refine aops_nil (d_end ?_) | refine aops_nil ?_ | refine awp_seq ?_ | refine g_text ?_ | refine g_draw Tryd.mixed ?_ | refine awp_block ?_ | refine awp_skip ?_ | (refine awp_exit ?_; simp only [thenA, blockA, ↓reduceIte, Nat.reduceEqDiff, reduceCtorEq]))
  refine aops_call' rfl (w_between_con env r.steps 0 1099511627776) (by simp only [go_sem, recAV, h1, h2, h3, h4, g5, g6]; exact Is.rfl') (by simp only [go_sem, recAV, h1, h2, h3, h4, g5, g6]; exact ⟨rfl, rfl⟩) ?_
  repeat (first | refine aops_op' rfl (by simp only [go_sem, recAV, h1, h2, h3, h4, g5, g6]; exact ⟨rfl, rfl⟩) ?_ | refine g_run ?_ | refine g_off ?_ | refine aops_nil (d_end ?_) | refine aops_nil ?_ | refine awp_seq ?_ | refine g_text ?_ | refine g_draw Tryd.mixed ?_ | refine awp_block ?_ | refine awp_skip ?_ | (refine awp_exit ?_; simp only [thenA, blockA, ↓reduceIte, Nat.reduceEqDiff, reduceCtorEq]))
  refine aops_call' rfl (w_states_con env r.active l1) (by simp only [go_sem, recAV, h1, h2, h3, h4, g5, g6]; exact Is.rfl') (by simp only [go_sem, recAV, h1, h2, h3, h4, g5, g6]; exact ⟨rfl, rfl⟩) ?_
  repeat (first | refine aops_op' rfl (by simp only [go_sem, recAV, h1, h2, h3, h4, g5, g6]; exact ⟨rfl, rfl⟩) ?_ | refine g_run ?_ | refine g_off ?_ | refine aops_nil (d_end ?_) | refine aops_nil ?_ | refine awp_seq ?_ | refine g_text ?_ | refine g_draw Tryd.mixed ?_ | refine awp_block ?_ | refine awp_skip ?_ | (refine awp_exit ?_; simp only [thenA, blockA, ↓reduceIte, Nat.reduceEqDiff, reduceCtorEq]))
  refine awp_no' (by simp only [go_sem, recAV, h1, h2, h3, h4, g5, g6]; exact Is.rfl') ?_
  repeat (first | refine aops_op' rfl (by simp only [go_sem, recAV, h1, h2, h3, h4, g5, g6]; exact ⟨rfl, rfl⟩) ?_ | refine g_run ?_ | refine g_off ?_ | refine aops_nil (d_end ?_) | refine aops_nil ?_ | refine awp_seq ?_ | refine g_text ?_ | refine g_draw Tryd.mixed ?_ | refine awp_block ?_ | refine awp_skip ?_ | (refine awp_exit ?_; simp only [thenA, blockA, ↓reduceIte, Nat.reduceEqDiff, reduceCtorEq]))
  clear h1 h2 h3 h4 hh hr
  refine awp_loopH (D := Nat) (fun i vs => [(1, .loc 1 (vs 1) 0 0), (3, .loc 3 (vs 3) 0 0), (4, I i)]) (fun _ _ => [(3, ⟨5, [inAV r], 36, false⟩)]) (fun i _ _ => i ≤ r.vars.length ∧ ∀ j, j < i → varAt r.vars j = true) (fun i => r.vars.length - i) 0 ?_ ?_ ?_ ?_
  · exact ⟨Nat.zero_le _, fun j hj => by omega⟩
  · (simp only [go_sem, g5, g6, inAV])
  · (simp only [go_sem, g5, g6, inAV])
  rintro i vs esc ⟨hi, ha⟩
  by_cases hlt : i < r.vars.length
  · have k1 := nlt hlt
    have k2 := wrap_succ hlt (by omega)
    obtain ⟨x, hx⟩ : ∃ x, r.vars[i]? = some x := ⟨r.vars[i], List.getElem?_eq_getElem hlt⟩
    by_cases hb : (decide (-2147483647 ≤ x) && decide (x ≤ 2147483647)) = true
    · have hv : varAt r.vars i = true := by unfold varAt; rw [getD_is hx]; exact hb
      repeat (first | refine aops_op' rfl (by simp only [go_sem, inAV, k1, k2, hx, hb, iAV]; exact ⟨rfl, rfl⟩) ?_ | refine g_run ?_ | refine g_off ?_ | refine aops_nil (d_end ?_) | refine aops_nil ?_ | refine awp_seq ?_ | refine g_text ?_ | refine g_draw Tryd.mixed ?_ | refine awp_block ?_ | refine awp_skip ?_ | (refine awp_exit ?_; simp only [thenA, blockA, ↓reduceIte, Nat.reduceEqDiff, reduceCtorEq]))
      refine awp_yes' (by simp only [go_sem, inAV, k1, k2, hx, hb, iAV]; exact Is.rfl') ?_
      repeat (first | refine aops_op' rfl (by simp only [go_sem, inAV, k1, k2, hx, hb, iAV]; exact ⟨rfl, rfl⟩) ?_ | refine g_run ?_ | refine g_off ?_ | refine aops_nil (d_end ?_) | refine aops_nil ?_ | refine awp_seq ?_ | refine g_text ?_ | refine g_draw Tryd.mixed ?_ | refine awp_block ?_ | refine awp_skip ?_ | (refine awp_exit ?_; simp only [thenA, blockA, ↓reduceIte, Nat.reduceEqDiff, reduceCtorEq]))
      refine aops_call' rfl (w_between_con env x (-2147483647) 2147483647) (by simp only [go_sem, inAV, k1, k2, hx, hb, iAV]; exact Is.rfl') (by simp only [go_sem, inAV, k1, k2, hx, hb, iAV]; exact ⟨rfl, rfl⟩) ?_
      repeat (first | refine aops_op' rfl (by simp only [go_sem, inAV, k1, k2, hx, hb, iAV]; exact ⟨rfl, rfl⟩) ?_ | refine g_run ?_ | refine g_off ?_ | refine aops_nil (d_end ?_) | refine aops_nil ?_ | refine awp_seq ?_ | refine g_text ?_ | refine g_draw Tryd.mixed ?_ | refine awp_block ?_ | refine awp_skip ?_ | (refine awp_exit ?_; simp only [thenA, blockA, ↓reduceIte, Nat.reduceEqDiff, reduceCtorEq]))
      refine awp_no' (by simp only [go_sem, inAV, k1, k2, hx, hb, iAV]; exact Is.rfl') ?_
      repeat (first | refine aops_op' rfl (by simp only [go_sem, inAV, k1, k2, hx, hb, iAV]; exact ⟨rfl, rfl⟩) ?_ | refine g_run ?_ | refine g_off ?_ | refine aops_nil (d_end ?_) | refine aops_nil ?_ | refine awp_seq ?_ | refine g_text ?_ | refine g_draw Tryd.mixed ?_ | refine awp_block ?_ | refine awp_skip ?_ | (refine awp_exit ?_; simp only [thenA, blockA, ↓reduceIte, Nat.reduceEqDiff, reduceCtorEq]))
      refine ⟨i + 1, ⟨hlt, allB_up ha hv⟩, ?_, ?_, ?_⟩
      · (simp only [go_sem, inAV, k1, k2, hx, hb, iAV])
      · (simp only [go_sem, inAV, k1, k2, hx, hb, iAV])
      · omega
    · have hb : (decide (-2147483647 ≤ x) && decide (x ≤ 2147483647)) = false := by simpa using hb
      have hv : varAt r.vars i = false := by unfold varAt; rw [getD_is hx]; exact hb
      rw [allB_false hlt hv, Bool.false_and]
      repeat (first | refine aops_op' rfl (by simp only [go_sem, inAV, k1, k2, hx, hb, iAV]; exact ⟨rfl, rfl⟩) ?_ | refine g_run ?_ | refine g_off ?_ | refine aops_nil (d_end ?_) | refine aops_nil ?_ | refine awp_seq ?_ | refine g_text ?_ | refine g_draw Tryd.mixed ?_ | refine awp_block ?_ | refine awp_skip ?_ | (refine awp_exit ?_; simp only [thenA, blockA, ↓reduceIte, Nat.reduceEqDiff, reduceCtorEq]))
      refine awp_yes' (by simp only [go_sem, inAV, k1, k2, hx, hb, iAV]; exact Is.rfl') ?_
      repeat (first | refine aops_op' rfl (by simp only [go_sem, inAV, k1, k2, hx, hb, iAV]; exact ⟨rfl, rfl⟩) ?_ | refine g_run ?_ | refine g_off ?_ | refine aops_nil (d_end ?_) | refine aops_nil ?_ | refine awp_seq ?_ | refine g_text ?_ | refine g_draw Tryd.mixed ?_ | refine awp_block ?_ | refine awp_skip ?_ | (refine awp_exit ?_; simp only [thenA, blockA, ↓reduceIte, Nat.reduceEqDiff, reduceCtorEq]))
      refine aops_call' rfl (w_between_con env x (-2147483647) 2147483647) (by simp only [go_sem, inAV, k1, k2, hx, hb, iAV]; exact Is.rfl') (by simp only [go_sem, inAV, k1, k2, hx, hb, iAV]; exact ⟨rfl, rfl⟩) ?_
      repeat (first | refine aops_op' rfl (by simp only [go_sem, inAV, k1, k2, hx, hb, iAV]; exact ⟨rfl, rfl⟩) ?_ | refine g_run ?_ | refine g_off ?_ | refine aops_nil (d_end ?_) | refine aops_nil ?_ | refine awp_seq ?_ | refine g_text ?_ | refine g_draw Tryd.mixed ?_ | refine awp_block ?_ | refine awp_skip ?_ | (refine awp_exit ?_; simp only [thenA, blockA, ↓reduceIte, Nat.reduceEqDiff, reduceCtorEq]))
      refine awp_yes' (by simp only [go_sem, inAV, k1, k2, hx, hb, iAV]; exact Is.rfl') ?_
      repeat (first | refine aops_op' rfl (by simp only [go_sem, inAV, k1, k2, hx, hb, iAV]; exact ⟨rfl, rfl⟩) ?_ | refine g_run ?_ | refine g_off ?_ | refine aops_nil (d_end ?_) | refine aops_nil ?_ | refine awp_seq ?_ | refine g_text ?_ | refine g_draw Tryd.mixed ?_ | refine awp_block ?_ | refine awp_skip ?_ | (refine awp_exit ?_; simp only [thenA, blockA, ↓reduceIte, Nat.reduceEqDiff, reduceCtorEq]))
      (refine awp_ret ?_; show (resRd _ _ _).run _ = some _; simp only [go_sem, inAV, k1, k2, hx, hb, iAV])
  have k1 : ¬ (i : Int) < (r.vars.length : Int) := by omega
  rw [allB_true (n := r.vars.length) fun j hj => ha j (by omega), Bool.true_and]
  repeat (first | refine aops_op' rfl (by simp only [go_sem, inAV, k1]; exact ⟨rfl, rfl⟩) ?_ | refine g_run ?_ | refine g_off ?_ | refine aops_nil (d_end ?_) | refine aops_nil ?_ | refine awp_seq ?_ | refine g_text ?_ | refine g_draw Tryd.mixed ?_ | refine awp_block ?_ | refine awp_skip ?_ | (refine awp_exit ?_; simp only [thenA, blockA, ↓reduceIte, Nat.reduceEqDiff, reduceCtorEq]))
  refine awp_no' (by simp only [go_sem, inAV, k1]; exact Is.rfl') ?_
  repeat (first | refine aops_op' rfl (by simp only [go_sem, inAV, k1]; exact ⟨rfl, rfl⟩) ?_ | refine g_run ?_ | refine g_off ?_ | refine aops_nil (d_end ?_) | refine aops_nil ?_ | refine awp_seq ?_ | refine g_text ?_ | refine g_draw Tryd.mixed ?_ | refine awp_block ?_ | refine awp_skip ?_ | (refine awp_exit ?_; simp only [thenA, blockA, ↓reduceIte, Nat.reduceEqDiff, reduceCtorEq]))
  clear ha hi hlt k1
  refine awp_loopH (D := Nat) (fun i vs => [(1, .loc 1 (vs 1) 0 0), (3, .loc 3 (vs 3) 0 0), (5, I i)]) (fun _ _ => [(3, ⟨5, [inAV r], 36, false⟩)]) (fun i _ _ => i ≤ r.mem.length ∧ ∀ j, j < i → memAt r.mem j = true) (fun i => r.mem.length - i) 0 ?_ ?_ ?_ ?_
  · exact ⟨Nat.zero_le _, fun j hj => by omega⟩
  · (simp only [go_sem, g5, g6, inAV])
  · (simp only [go_sem, g5, g6, inAV])
  rintro i vs esc ⟨hi, ha⟩
  by_cases hlt : i < r.mem.length
  · have k1 := nlt hlt
    have k2 := wrap_succ hlt (by omega)
    obtain ⟨x, hx⟩ : ∃ x, r.mem[i]? = some x := ⟨r.mem[i], List.getElem?_eq_getElem hlt⟩
    have hst := l5 x (mem_of hx)
    by_cases hb : (decide (0 ≤ x.1) && decide (x.1 ≤ 31)) = true
    case neg =>
      have hb : (decide (0 ≤ x.1) && decide (x.1 ≤ 31)) = false := by simpa using hb
      have hv : memAt r.mem i = false := by unfold memAt; rw [getD_is hx, hb]; rfl
      rw [memsB, allB_false hlt hv, Bool.false_and]
      repeat (first | refine aops_op' rfl (by simp only [go_sem, inAV, k1, k2, hx, hb, memAV]; exact ⟨rfl, rfl⟩) ?_ | refine g_run ?_ | refine g_off ?_ | refine aops_nil (d_end ?_) | refine aops_nil ?_ | refine awp_seq ?_ | refine g_text ?_ | refine g_draw Tryd.mixed ?_ | refine awp_block ?_ | refine awp_skip ?_ | (refine awp_exit ?_; simp only [thenA, blockA, ↓reduceIte, Nat.reduceEqDiff, reduceCtorEq]))
      refine awp_yes' (by simp only [go_sem, inAV, k1, k2, hx, hb, memAV]; exact Is.rfl') ?_
      repeat (first | refine aops_op' rfl (by simp only [go_sem, inAV, k1, k2, hx, hb, memAV]; exact ⟨rfl, rfl⟩) ?_ | refine g_run ?_ | refine g_off ?_ | refine aops_nil (d_end ?_) | refine aops_nil ?_ | refine awp_seq ?_ | refine g_text ?_ | refine g_draw Tryd.mixed ?_ | refine awp_block ?_ | refine awp_skip ?_ | (refine awp_exit ?_; simp only [thenA, blockA, ↓reduceIte, Nat.reduceEqDiff, reduceCtorEq]))
      refine aops_call' rfl (w_between_con env x.1 0 31) (by simp only [go_sem, inAV, k1, k2, hx, hb, memAV]; exact Is.rfl') (by simp only [go_sem, inAV, k1, k2, hx, hb, memAV]; exact ⟨rfl, rfl⟩) ?_
      repeat (first | refine aops_op' rfl (by simp only [go_sem, inAV, k1, k2, hx, hb, memAV]; exact ⟨rfl, rfl⟩) ?_ | refine g_run ?_ | refine g_off ?_ | refine aops_nil (d_end ?_) | refine aops_nil ?_ | refine awp_seq ?_ | refine g_text ?_ | refine g_draw Tryd.mixed ?_ | refine awp_block ?_ | refine awp_skip ?_ | (refine awp_exit ?_; simp only [thenA, blockA, ↓reduceIte, Nat.reduceEqDiff, reduceCtorEq]))
      refine awp_yes' (by simp only [go_sem, inAV, k1, k2, hx, hb, memAV]; exact Is.rfl') ?_
      repeat (first | refine aops_op' rfl (by simp only [go_sem, inAV, k1, k2, hx, hb, memAV]; exact ⟨rfl, rfl⟩) ?_ | refine g_run ?_ | refine g_off ?_ | refine aops_nil (d_end ?_) | refine aops_nil ?_ | refine awp_seq ?_ | refine g_text ?_ | refine g_draw Tryd.mixed ?_ | refine awp_block ?_ | refine awp_skip ?_ | (refine awp_exit ?_; simp only [thenA, blockA, ↓reduceIte, Nat.reduceEqDiff, reduceCtorEq]))
      (refine awp_ret ?_; show (resRd _ _ _).run _ = some _; simp only [go_sem, inAV, k1, k2, hx, hb, memAV])
    by_cases hs : statesB x.2 = true
    case neg =>
      have hs : statesB x.2 = false := by simpa using hs
      have hv : memAt r.mem i = false := by unfold memAt; rw [getD_is hx, hb, hs]; rfl
      rw [memsB, allB_false hlt hv, Bool.false_and]
      repeat (first | refine aops_op' rfl (by simp only [go_sem, inAV, k1, k2, hx, hb, memAV, hs]; exact ⟨rfl, rfl⟩) ?_ | refine g_run ?_ | refine g_off ?_ | refine aops_nil (d_end ?_) | refine aops_nil ?_ | refine awp_seq ?_ | refine g_text ?_ | refine g_draw Tryd.mixed ?_ | refine awp_block ?_ | refine awp_skip ?_ | (refine awp_exit ?_; simp only [thenA, blockA, ↓reduceIte, Nat.reduceEqDiff, reduceCtorEq]))
      refine awp_yes' (by simp only [go_sem, inAV, k1, k2, hx, hb, memAV, hs]; exact Is.rfl') ?_
      repeat (first | refine aops_op' rfl (by simp only [go_sem, inAV, k1, k2, hx, hb, memAV, hs]; exact ⟨rfl, rfl⟩) ?_ | refine g_run ?_ | refine g_off ?_ | refine aops_nil (d_end ?_) | refine aops_nil ?_ | refine awp_seq ?_ | refine g_text ?_ | refine g_draw Tryd.mixed ?_ | refine awp_block ?_ | refine awp_skip ?_ | (refine awp_exit ?_; simp only [thenA, blockA, ↓reduceIte, Nat.reduceEqDiff, reduceCtorEq]))
      refine aops_call' rfl (w_between_con env x.1 0 31) (by simp only [go_sem, inAV, k1, k2, hx, hb, memAV, hs]; exact Is.rfl') (by simp only [go_sem, inAV, k1, k2, hx, hb, memAV, hs]; exact ⟨rfl, rfl⟩) ?_
      repeat (first | refine aops_op' rfl (by simp only [go_sem, inAV, k1, k2, hx, hb, memAV, hs]; exact ⟨rfl, rfl⟩) ?_ | refine g_run ?_ | refine g_off ?_ | refine aops_nil (d_end ?_) | refine aops_nil ?_ | refine awp_seq ?_ | refine g_text ?_ | refine g_draw Tryd.mixed ?_ | refine awp_block ?_ | refine awp_skip ?_ | (refine awp_exit ?_; simp only [thenA, blockA, ↓reduceIte, Nat.reduceEqDiff, reduceCtorEq]))
      refine aops_call' rfl (w_states_con env x.2 hst) (by simp only [go_sem, inAV, k1, k2, hx, hb, memAV, hs]; exact Is.rfl') (by simp only [go_sem, inAV, k1, k2, hx, hb, memAV, hs]; exact ⟨rfl, rfl⟩) ?_
      repeat (first | refine aops_op' rfl (by simp only [go_sem, inAV, k1, k2, hx, hb, memAV, hs]; exact ⟨rfl, rfl⟩) ?_ | refine g_run ?_ | refine g_off ?_ | refine aops_nil (d_end ?_) | refine aops_nil ?_ | refine awp_seq ?_ | refine g_text ?_ | refine g_draw Tryd.mixed ?_ | refine awp_block ?_ | refine awp_skip ?_ | (refine awp_exit ?_; simp only [thenA, blockA, ↓reduceIte, Nat.reduceEqDiff, reduceCtorEq]))
      refine awp_yes' (by simp only [go_sem, inAV, k1, k2, hx, hb, memAV, hs]; exact Is.rfl') ?_
      repeat (first | refine aops_op' rfl (by simp only [go_sem, inAV, k1, k2, hx, hb, memAV, hs]; exact ⟨rfl, rfl⟩) ?_ | refine g_run ?_ | refine g_off ?_ | refine aops_nil (d_end ?_) | refine aops_nil ?_ | refine awp_seq ?_ | refine g_text ?_ | refine g_draw Tryd.mixed ?_ | refine awp_block ?_ | refine awp_skip ?_ | (refine awp_exit ?_; simp only [thenA, blockA, ↓reduceIte, Nat.reduceEqDiff, reduceCtorEq]))
      (refine awp_ret ?_; show (resRd _ _ _).run _ = some _; simp only [go_sem, inAV, k1, k2, hx, hb, memAV, hs])
    by_cases h0 : i = 0
    · have hv : memAt r.mem i = true := by unfold memAt; rw [getD_is hx, hb, hs, decide_eq_true h0]; rfl
      have k3 : ¬ (0 : Int) < (i : Int) := by omega
      repeat (first | refine aops_op' rfl (by simp only [go_sem, inAV, k1, k2, hx, hb, memAV, hs, k3]; exact ⟨rfl, rfl⟩) ?_ | refine g_run ?_ | refine g_off ?_ | refine aops_nil (d_end ?_) | refine aops_nil ?_ | refine awp_seq ?_ | refine g_text ?_ | refine g_draw Tryd.mixed ?_ | refine awp_block ?_ | refine awp_skip ?_ | (refine awp_exit ?_; simp only [thenA, blockA, ↓reduceIte, Nat.reduceEqDiff, reduceCtorEq]))
      refine awp_yes' (by simp only [go_sem, inAV, k1, k2, hx, hb, memAV, hs, k3]; exact Is.rfl') ?_
      repeat (first | refine aops_op' rfl (by simp only [go_sem, inAV, k1, k2, hx, hb, memAV, hs, k3]; exact ⟨rfl, rfl⟩) ?_ | refine g_run ?_ | refine g_off ?_ | refine aops_nil (d_end ?_) | refine aops_nil ?_ | refine awp_seq ?_ | refine g_text ?_ | refine g_draw Tryd.mixed ?_ | refine awp_block ?_ | refine awp_skip ?_ | (refine awp_exit ?_; simp only [thenA, blockA, ↓reduceIte, Nat.reduceEqDiff, reduceCtorEq]))
      refine aops_call' rfl (w_between_con env x.1 0 31) (by simp only [go_sem, inAV, k1, k2, hx, hb, memAV, hs, k3]; exact Is.rfl') (by simp only [go_sem, inAV, k1, k2, hx, hb, memAV, hs, k3]; exact ⟨rfl, rfl⟩) ?_
      repeat (first | refine aops_op' rfl (by simp only [go_sem, inAV, k1, k2, hx, hb, memAV, hs, k3]; exact ⟨rfl, rfl⟩) ?_ | refine g_run ?_ | refine g_off ?_ | refine aops_nil (d_end ?_) | refine aops_nil ?_ | refine awp_seq ?_ | refine g_text ?_ | refine g_draw Tryd.mixed ?_ | refine awp_block ?_ | refine awp_skip ?_ | (refine awp_exit ?_; simp only [thenA, blockA, ↓reduceIte, Nat.reduceEqDiff, reduceCtorEq]))
      refine aops_call' rfl (w_states_con env x.2 hst) (by simp only [go_sem, inAV, k1, k2, hx, hb, memAV, hs, k3]; exact Is.rfl') (by simp only [go_sem, inAV, k1, k2, hx, hb, memAV, hs, k3]; exact ⟨rfl, rfl⟩) ?_
      repeat (first | refine aops_op' rfl (by simp only [go_sem, inAV, k1, k2, hx, hb, memAV, hs, k3]; exact ⟨rfl, rfl⟩) ?_ | refine g_run ?_ | refine g_off ?_ | refine aops_nil (d_end ?_) | refine aops_nil ?_ | refine awp_seq ?_ | refine g_text ?_ | refine g_draw Tryd.mixed ?_ | refine awp_block ?_ | refine awp_skip ?_ | (refine awp_exit ?_; simp only [thenA, blockA, ↓reduceIte, Nat.reduceEqDiff, reduceCtorEq]))
      refine awp_no' (by simp only [go_sem, inAV, k1, k2, hx, hb, memAV, hs, k3]; exact Is.rfl') ?_
      repeat (first | refine aops_op' rfl (by simp only [go_sem, inAV, k1, k2, hx, hb, memAV, hs, k3]; exact ⟨rfl, rfl⟩) ?_ | refine g_run ?_ | refine g_off ?_ | refine aops_nil (d_end ?_) | refine aops_nil ?_ | refine awp_seq ?_ | refine g_text ?_ | refine g_draw Tryd.mixed ?_ | refine awp_block ?_ | refine awp_skip ?_ | (refine awp_exit ?_; simp only [thenA, blockA, ↓reduceIte, Nat.reduceEqDiff, reduceCtorEq]))
      refine ⟨i + 1, ⟨hlt, allB_up ha hv⟩, ?_, ?_, ?_⟩
      · (simp only [go_sem, inAV, k1, k2, hx, hb, memAV, hs, k3])
      · (simp only [go_sem, inAV, k1, k2, hx, hb, memAV, hs, k3])
      · omega
    have k3 : (0 : Int) < (i : Int) := by omega
    have k4 : IntKind.i64.wrap ((i : Int) - 1) = ((i - 1 : Nat) : Int) := i64m i 1 (by omega) (by omega)
    have k5 : ((i - 1 : Nat) : Int) < (r.mem.length : Int) := by omega
    obtain ⟨y, hy⟩ : ∃ y, r.mem[i - 1]? = some y := ⟨r.mem[i - 1], List.getElem?_eq_getElem (by omega)⟩
    have hv : memAt r.mem i = decide (y.1 < x.1) := by unfold memAt; rw [getD_is hx, getD_is hy, hb, hs, decide_eq_false h0]; rfl
    by_cases hc : x.1 ≤ y.1
    · rw [memsB, allB_false hlt (by rw [hv, decide_eq_false (by omega)]), Bool.false_and]
      repeat (first | refine aops_op' rfl (by simp only [go_sem, inAV, k1, k2, hx, hb, memAV, hs, k3, k4, k5, hy, hc]; exact ⟨rfl, rfl⟩) ?_ | refine g_run ?_ | refine g_off ?_ | refine aops_nil (d_end ?_) | refine aops_nil ?_ | refine awp_seq ?_ | refine g_text ?_ | refine g_draw Tryd.mixed ?_ | refine awp_block ?_ | refine awp_skip ?_ | (refine awp_exit ?_; simp only [thenA, blockA, ↓reduceIte, Nat.reduceEqDiff, reduceCtorEq]))
      refine awp_yes' (by simp only [go_sem, inAV, k1, k2, hx, hb, memAV, hs, k3, k4, k5, hy, hc]; exact Is.rfl') ?_
      repeat (first | refine aops_op' rfl (by simp only [go_sem, inAV, k1, k2, hx, hb, memAV, hs, k3, k4, k5, hy, hc]; exact ⟨rfl, rfl⟩) ?_ | refine g_run ?_ | refine g_off ?_ | refine aops_nil (d_end ?_) | refine aops_nil ?_ | refine awp_seq ?_ | refine g_text ?_ | refine g_draw Tryd.mixed ?_ | refine awp_block ?_ | refine awp_skip ?_ | (refine awp_exit ?_; simp only [thenA, blockA, ↓reduceIte, Nat.reduceEqDiff, reduceCtorEq]))
      refine aops_call' rfl (w_between_con env x.1 0 31) (by simp only [go_sem, inAV, k1, k2, hx, hb, memAV, hs, k3, k4, k5, hy, hc]; exact Is.rfl') (by simp only [go_sem, inAV, k1, k2, hx, hb, memAV, hs, k3, k4, k5, hy, hc]; exact ⟨rfl, rfl⟩) ?_
      repeat (first | refine aops_op' rfl (by simp only [go_sem, inAV, k1, k2, hx, hb, memAV, hs, k3, k4, k5, hy, hc]; exact ⟨rfl, rfl⟩) ?_ | refine g_run ?_ | refine g_off ?_ | refine aops_nil (d_end ?_) | refine aops_nil ?_ | refine awp_seq ?_ | refine g_text ?_ | refine g_draw Tryd.mixed ?_ | refine awp_block ?_ | refine awp_skip ?_ | (refine awp_exit ?_; simp only [thenA, blockA, ↓reduceIte, Nat.reduceEqDiff, reduceCtorEq]))
      refine aops_call' rfl (w_states_con env x.2 hst) (by simp only [go_sem, inAV, k1, k2, hx, hb, memAV, hs, k3, k4, k5, hy, hc]; exact Is.rfl') (by simp only [go_sem, inAV, k1, k2, hx, hb, memAV, hs, k3, k4, k5, hy, hc]; exact ⟨rfl, rfl⟩) ?_
      repeat (first | refine aops_op' rfl (by simp only [go_sem, inAV, k1, k2, hx, hb, memAV, hs, k3, k4, k5, hy, hc]; exact ⟨rfl, rfl⟩) ?_ | refine g_run ?_ | refine g_off ?_ | refine aops_nil (d_end ?_) | refine aops_nil ?_ | refine awp_seq ?_ | refine g_text ?_ | refine g_draw Tryd.mixed ?_ | refine awp_block ?_ | refine awp_skip ?_ | (refine awp_exit ?_; simp only [thenA, blockA, ↓reduceIte, Nat.reduceEqDiff, reduceCtorEq]))
      refine awp_yes' (by simp only [go_sem, inAV, k1, k2, hx, hb, memAV, hs, k3, k4, k5, hy, hc]; exact Is.rfl') ?_
      repeat (first | refine aops_op' rfl (by simp only [go_sem, inAV, k1, k2, hx, hb, memAV, hs, k3, k4, k5, hy, hc]; exact ⟨rfl, rfl⟩) ?_ | refine g_run ?_ | refine g_off ?_ | refine aops_nil (d_end ?_) | refine aops_nil ?_ | refine awp_seq ?_ | refine g_text ?_ | refine g_draw Tryd.mixed ?_ | refine awp_block ?_ | refine awp_skip ?_ | (refine awp_exit ?_; simp only [thenA, blockA, ↓reduceIte, Nat.reduceEqDiff, reduceCtorEq]))
      (refine awp_ret ?_; show (resRd _ _ _).run _ = some _; simp only [go_sem, inAV, k1, k2, hx, hb, memAV, hs, k3, k4, k5, hy, hc])
    ·
      repeat (first | refine aops_op' rfl (by simp only [go_sem, inAV, k1, k2, hx, hb, memAV, hs, k3, k4, k5, hy, hc]; exact ⟨rfl, rfl⟩) ?_ | refine g_run ?_ | refine g_off ?_ | refine aops_nil (d_end ?_) | refine aops_nil ?_ | refine awp_seq ?_ | refine g_text ?_ | refine g_draw Tryd.mixed ?_ | refine awp_block ?_ | refine awp_skip ?_ | (refine awp_exit ?_; simp only [thenA, blockA, ↓reduceIte, Nat.reduceEqDiff, reduceCtorEq]))
      refine awp_yes' (by simp only [go_sem, inAV, k1, k2, hx, hb, memAV, hs, k3, k4, k5, hy, hc]; exact Is.rfl') ?_
      repeat (first | refine aops_op' rfl (by simp only [go_sem, inAV, k1, k2, hx, hb, memAV, hs, k3, k4, k5, hy, hc]; exact ⟨rfl, rfl⟩) ?_ | refine g_run ?_ | refine g_off ?_ | refine aops_nil (d_end ?_) | refine aops_nil ?_ | refine awp_seq ?_ | refine g_text ?_ | refine g_draw Tryd.mixed ?_ | refine awp_block ?_ | refine awp_skip ?_ | (refine awp_exit ?_; simp only [thenA, blockA, ↓reduceIte, Nat.reduceEqDiff, reduceCtorEq]))
      refine aops_call' rfl (w_between_con env x.1 0 31) (by simp only [go_sem, inAV, k1, k2, hx, hb, memAV, hs, k3, k4, k5, hy, hc]; exact Is.rfl') (by simp only [go_sem, inAV, k1, k2, hx, hb, memAV, hs, k3, k4, k5, hy, hc]; exact ⟨rfl, rfl⟩) ?_
      repeat (first | refine aops_op' rfl (by simp only [go_sem, inAV, k1, k2, hx, hb, memAV, hs, k3, k4, k5, hy, hc]; exact ⟨rfl, rfl⟩) ?_ | refine g_run ?_ | refine g_off ?_ | refine aops_nil (d_end ?_) | refine aops_nil ?_ | refine awp_seq ?_ | refine g_text ?_ | refine g_draw Tryd.mixed ?_ | refine awp_block ?_ | refine awp_skip ?_ | (refine awp_exit ?_; simp only [thenA, blockA, ↓reduceIte, Nat.reduceEqDiff, reduceCtorEq]))
      refine aops_call' rfl (w_states_con env x.2 hst) (by simp only [go_sem, inAV, k1, k2, hx, hb, memAV, hs, k3, k4, k5, hy, hc]; exact Is.rfl') (by simp only [go_sem, inAV, k1, k2, hx, hb, memAV, hs, k3, k4, k5, hy, hc]; exact ⟨rfl, rfl⟩) ?_
      repeat (first | refine aops_op' rfl (by simp only [go_sem, inAV, k1, k2, hx, hb, memAV, hs, k3, k4, k5, hy, hc]; exact ⟨rfl, rfl⟩) ?_ | refine g_run ?_ | refine g_off ?_ | refine aops_nil (d_end ?_) | refine aops_nil ?_ | refine awp_seq ?_ | refine g_text ?_ | refine g_draw Tryd.mixed ?_ | refine awp_block ?_ | refine awp_skip ?_ | (refine awp_exit ?_; simp only [thenA, blockA, ↓reduceIte, Nat.reduceEqDiff, reduceCtorEq]))
      refine awp_no' (by simp only [go_sem, inAV, k1, k2, hx, hb, memAV, hs, k3, k4, k5, hy, hc]; exact Is.rfl') ?_
      repeat (first | refine aops_op' rfl (by simp only [go_sem, inAV, k1, k2, hx, hb, memAV, hs, k3, k4, k5, hy, hc]; exact ⟨rfl, rfl⟩) ?_ | refine g_run ?_ | refine g_off ?_ | refine aops_nil (d_end ?_) | refine aops_nil ?_ | refine awp_seq ?_ | refine g_text ?_ | refine g_draw Tryd.mixed ?_ | refine awp_block ?_ | refine awp_skip ?_ | (refine awp_exit ?_; simp only [thenA, blockA, ↓reduceIte, Nat.reduceEqDiff, reduceCtorEq]))
      refine ⟨i + 1, ⟨hlt, allB_up ha (by rw [hv, decide_eq_true (by omega)])⟩, ?_, ?_, ?_⟩
      · (simp only [go_sem, inAV, k1, k2, hx, hb, memAV, hs, k3, k4, k5, hy, hc])
      · (simp only [go_sem, inAV, k1, k2, hx, hb, memAV, hs, k3, k4, k5, hy, hc])
      · omega
  have k1 : ¬ (i : Int) < (r.mem.length : Int) := by omega
  rw [memsB, allB_true (n := r.mem.length) fun j hj => ha j (by omega), Bool.true_and]
  repeat (first | refine aops_op' rfl (by simp only [go_sem, inAV, k1]; exact ⟨rfl, rfl⟩) ?_ | refine g_run ?_ | refine g_off ?_ | refine aops_nil (d_end ?_) | refine aops_nil ?_ | refine awp_seq ?_ | refine g_text ?_ | refine g_draw Tryd.mixed ?_ | refine awp_block ?_ | refine awp_skip ?_ | (refine awp_exit ?_; simp only [thenA, blockA, ↓reduceIte, Nat.reduceEqDiff, reduceCtorEq]))
  refine awp_no' (by simp only [go_sem, inAV, k1]; exact Is.rfl') ?_
  repeat (first | refine aops_op' rfl (by simp only [go_sem, inAV, k1]; exact ⟨rfl, rfl⟩) ?_ | refine g_run ?_ | refine g_off ?_ | refine aops_nil (d_end ?_) | refine aops_nil ?_ | refine awp_seq ?_ | refine g_text ?_ | refine g_draw Tryd.mixed ?_ | refine awp_block ?_ | refine awp_skip ?_ | (refine awp_exit ?_; simp only [thenA, blockA, ↓reduceIte, Nat.reduceEqDiff, reduceCtorEq]))
  clear ha hi hlt k1
  refine awp_loopH (D := Nat) (fun i vs => [(1, .loc 1 (vs 1) 0 0), (3, .loc 3 (vs 3) 0 0), (6, I i)]) (fun _ _ => [(3, ⟨5, [inAV r], 36, false⟩)]) (fun i _ _ => i ≤ r.timers.length ∧ ∀ j, j < i → tmAt r.timers j = true) (fun i => r.timers.length - i) 0 ?_ ?_ ?_ ?_
  · exact ⟨Nat.zero_le _, fun j hj => by omega⟩
  · (simp only [go_sem, g5, g6, inAV])
  · (simp only [go_sem, g5, g6, inAV])
  rintro i vs esc ⟨hi, ha⟩
  by_cases hlt : i < r.timers.length
  · have k1 := nlt hlt
    have k2 := wrap_succ hlt (by omega)
    obtain ⟨x, hx⟩ : ∃ x, r.timers[i]? = some x := ⟨r.timers[i], List.getElem?_eq_getElem hlt⟩
    by_cases hb : nameB x.1 = true
    case neg =>
      have hb : nameB x.1 = false := by simpa using hb
      have hv : tmAt r.timers i = false := by unfold tmAt; rw [getD_is hx, hb]; rfl
      rw [allB_false hlt hv]
      repeat (first | refine aops_op' rfl (by simp only [go_sem, inAV, k1, k2, hx, hb, tmAV]; exact ⟨rfl, rfl⟩) ?_ | refine g_run ?_ | refine g_off ?_ | refine aops_nil (d_end ?_) | refine aops_nil ?_ | refine awp_seq ?_ | refine g_text ?_ | refine g_draw Tryd.mixed ?_ | refine awp_block ?_ | refine awp_skip ?_ | (refine awp_exit ?_; simp only [thenA, blockA, ↓reduceIte, Nat.reduceEqDiff, reduceCtorEq]))
      refine awp_yes' (by simp only [go_sem, inAV, k1, k2, hx, hb, tmAV]; exact Is.rfl') ?_
      repeat (first | refine aops_op' rfl (by simp only [go_sem, inAV, k1, k2, hx, hb, tmAV]; exact ⟨rfl, rfl⟩) ?_ | refine g_run ?_ | refine g_off ?_ | refine aops_nil (d_end ?_) | refine aops_nil ?_ | refine awp_seq ?_ | refine g_text ?_ | refine g_draw Tryd.mixed ?_ | refine awp_block ?_ | refine awp_skip ?_ | (refine awp_exit ?_; simp only [thenA, blockA, ↓reduceIte, Nat.reduceEqDiff, reduceCtorEq]))
      refine aops_call' rfl (w_name_con env x.1) (by simp only [go_sem, inAV, k1, k2, hx, hb, tmAV]; exact Is.rfl') (by simp only [go_sem, inAV, k1, k2, hx, hb, tmAV]; exact ⟨rfl, rfl⟩) ?_
      repeat (first | refine aops_op' rfl (by simp only [go_sem, inAV, k1, k2, hx, hb, tmAV]; exact ⟨rfl, rfl⟩) ?_ | refine g_run ?_ | refine g_off ?_ | refine aops_nil (d_end ?_) | refine aops_nil ?_ | refine awp_seq ?_ | refine g_text ?_ | refine g_draw Tryd.mixed ?_ | refine awp_block ?_ | refine awp_skip ?_ | (refine awp_exit ?_; simp only [thenA, blockA, ↓reduceIte, Nat.reduceEqDiff, reduceCtorEq]))
      refine awp_yes' (by simp only [go_sem, inAV, k1, k2, hx, hb, tmAV]; exact Is.rfl') ?_
      repeat (first | refine aops_op' rfl (by simp only [go_sem, inAV, k1, k2, hx, hb, tmAV]; exact ⟨rfl, rfl⟩) ?_ | refine g_run ?_ | refine g_off ?_ | refine aops_nil (d_end ?_) | refine aops_nil ?_ | refine awp_seq ?_ | refine g_text ?_ | refine g_draw Tryd.mixed ?_ | refine awp_block ?_ | refine awp_skip ?_ | (refine awp_exit ?_; simp only [thenA, blockA, ↓reduceIte, Nat.reduceEqDiff, reduceCtorEq]))
      (refine awp_ret ?_; show (resRd _ _ _).run _ = some _; simp only [go_sem, inAV, k1, k2, hx, hb, tmAV])
    by_cases hs : (decide (0 ≤ x.2) && decide (x.2 ≤ 1099511627776)) = true
    case neg =>
      have hs : (decide (0 ≤ x.2) && decide (x.2 ≤ 1099511627776)) = false := by simpa using hs
      have hv : tmAt r.timers i = false := by unfold tmAt clkB; rw [getD_is hx, hb, le_split, hs]; rfl
      rw [allB_false hlt hv]
      repeat (first | refine aops_op' rfl (by simp only [go_sem, inAV, k1, k2, hx, hb, tmAV, hs]; exact ⟨rfl, rfl⟩) ?_ | refine g_run ?_ | refine g_off ?_ | refine aops_nil (d_end ?_) | refine aops_nil ?_ | refine awp_seq ?_ | refine g_text ?_ | refine g_draw Tryd.mixed ?_ | refine awp_block ?_ | refine awp_skip ?_ | (refine awp_exit ?_; simp only [thenA, blockA, ↓reduceIte, Nat.reduceEqDiff, reduceCtorEq]))
      refine awp_yes' (by simp only [go_sem, inAV, k1, k2, hx, hb, tmAV, hs]; exact Is.rfl') ?_
      repeat (first | refine aops_op' rfl (by simp only [go_sem, inAV, k1, k2, hx, hb, tmAV, hs]; exact ⟨rfl, rfl⟩) ?_ | refine g_run ?_ | refine g_off ?_ | refine aops_nil (d_end ?_) | refine aops_nil ?_ | refine awp_seq ?_ | refine g_text ?_ | refine g_draw Tryd.mixed ?_ | refine awp_block ?_ | refine awp_skip ?_ | (refine awp_exit ?_; simp only [thenA, blockA, ↓reduceIte, Nat.reduceEqDiff, reduceCtorEq]))
      refine aops_call' rfl (w_name_con env x.1) (by simp only [go_sem, inAV, k1, k2, hx, hb, tmAV, hs]; exact Is.rfl') (by simp only [go_sem, inAV, k1, k2, hx, hb, tmAV, hs]; exact ⟨rfl, rfl⟩) ?_
      repeat (first | refine aops_op' rfl (by simp only [go_sem, inAV, k1, k2, hx, hb, tmAV, hs]; exact ⟨rfl, rfl⟩) ?_ | refine g_run ?_ | refine g_off ?_ | refine aops_nil (d_end ?_) | refine aops_nil ?_ | refine awp_seq ?_ | refine g_text ?_ | refine g_draw Tryd.mixed ?_ | refine awp_block ?_ | refine awp_skip ?_ | (refine awp_exit ?_; simp only [thenA, blockA, ↓reduceIte, Nat.reduceEqDiff, reduceCtorEq]))
      refine aops_call' rfl (w_between_con env x.2 0 1099511627776) (by simp only [go_sem, inAV, k1, k2, hx, hb, tmAV, hs]; exact Is.rfl') (by simp only [go_sem, inAV, k1, k2, hx, hb, tmAV, hs]; exact ⟨rfl, rfl⟩) ?_
      repeat (first | refine aops_op' rfl (by simp only [go_sem, inAV, k1, k2, hx, hb, tmAV, hs]; exact ⟨rfl, rfl⟩) ?_ | refine g_run ?_ | refine g_off ?_ | refine aops_nil (d_end ?_) | refine aops_nil ?_ | refine awp_seq ?_ | refine g_text ?_ | refine g_draw Tryd.mixed ?_ | refine awp_block ?_ | refine awp_skip ?_ | (refine awp_exit ?_; simp only [thenA, blockA, ↓reduceIte, Nat.reduceEqDiff, reduceCtorEq]))
      refine awp_yes' (by simp only [go_sem, inAV, k1, k2, hx, hb, tmAV, hs]; exact Is.rfl') ?_
      repeat (first | refine aops_op' rfl (by simp only [go_sem, inAV, k1, k2, hx, hb, tmAV, hs]; exact ⟨rfl, rfl⟩) ?_ | refine g_run ?_ | refine g_off ?_ | refine aops_nil (d_end ?_) | refine aops_nil ?_ | refine awp_seq ?_ | refine g_text ?_ | refine g_draw Tryd.mixed ?_ | refine awp_block ?_ | refine awp_skip ?_ | (refine awp_exit ?_; simp only [thenA, blockA, ↓reduceIte, Nat.reduceEqDiff, reduceCtorEq]))
      (refine awp_ret ?_; show (resRd _ _ _).run _ = some _; simp only [go_sem, inAV, k1, k2, hx, hb, tmAV, hs])
    by_cases h0 : i = 0
    · have hv : tmAt r.timers i = true := by unfold tmAt clkB; rw [getD_is hx, hb, le_split, hs, decide_eq_true h0]; rfl
      have k3 : ¬ (0 : Int) < (i : Int) := by omega
      repeat (first | refine aops_op' rfl (by simp only [go_sem, inAV, k1, k2, hx, hb, tmAV, hs, k3]; exact ⟨rfl, rfl⟩) ?_ | refine g_run ?_ | refine g_off ?_ | refine aops_nil (d_end ?_) | refine aops_nil ?_ | refine awp_seq ?_ | refine g_text ?_ | refine g_draw Tryd.mixed ?_ | refine awp_block ?_ | refine awp_skip ?_ | (refine awp_exit ?_; simp only [thenA, blockA, ↓reduceIte, Nat.reduceEqDiff, reduceCtorEq]))
      refine awp_yes' (by simp only [go_sem, inAV, k1, k2, hx, hb, tmAV, hs, k3]; exact Is.rfl') ?_
      repeat (first | refine aops_op' rfl (by simp only [go_sem, inAV, k1, k2, hx, hb, tmAV, hs, k3]; exact ⟨rfl, rfl⟩) ?_ | refine g_run ?_ | refine g_off ?_ | refine aops_nil (d_end ?_) | refine aops_nil ?_ | refine awp_seq ?_ | refine g_text ?_ | refine g_draw Tryd.mixed ?_ | refine awp_block ?_ | refine awp_skip ?_ | (refine awp_exit ?_; simp only [thenA, blockA, ↓reduceIte, Nat.reduceEqDiff, reduceCtorEq]))
      refine aops_call' rfl (w_name_con env x.1) (by simp only [go_sem, inAV, k1, k2, hx, hb, tmAV, hs, k3]; exact Is.rfl') (by simp only [go_sem, inAV, k1, k2, hx, hb, tmAV, hs, k3]; exact ⟨rfl, rfl⟩) ?_
      repeat (first | refine aops_op' rfl (by simp only [go_sem, inAV, k1, k2, hx, hb, tmAV, hs, k3]; exact ⟨rfl, rfl⟩) ?_ | refine g_run ?_ | refine g_off ?_ | refine aops_nil (d_end ?_) | refine aops_nil ?_ | refine awp_seq ?_ | refine g_text ?_ | refine g_draw Tryd.mixed ?_ | refine awp_block ?_ | refine awp_skip ?_ | (refine awp_exit ?_; simp only [thenA, blockA, ↓reduceIte, Nat.reduceEqDiff, reduceCtorEq]))
      refine aops_call' rfl (w_between_con env x.2 0 1099511627776) (by simp only [go_sem, inAV, k1, k2, hx, hb, tmAV, hs, k3]; exact Is.rfl') (by simp only [go_sem, inAV, k1, k2, hx, hb, tmAV, hs, k3]; exact ⟨rfl, rfl⟩) ?_
      repeat (first | refine aops_op' rfl (by simp only [go_sem, inAV, k1, k2, hx, hb, tmAV, hs, k3]; exact ⟨rfl, rfl⟩) ?_ | refine g_run ?_ | refine g_off ?_ | refine aops_nil (d_end ?_) | refine aops_nil ?_ | refine awp_seq ?_ | refine g_text ?_ | refine g_draw Tryd.mixed ?_ | refine awp_block ?_ | refine awp_skip ?_ | (refine awp_exit ?_; simp only [thenA, blockA, ↓reduceIte, Nat.reduceEqDiff, reduceCtorEq]))
      refine awp_no' (by simp only [go_sem, inAV, k1, k2, hx, hb, tmAV, hs, k3]; exact Is.rfl') ?_
      repeat (first | refine aops_op' rfl (by simp only [go_sem, inAV, k1, k2, hx, hb, tmAV, hs, k3]; exact ⟨rfl, rfl⟩) ?_ | refine g_run ?_ | refine g_off ?_ | refine aops_nil (d_end ?_) | refine aops_nil ?_ | refine awp_seq ?_ | refine g_text ?_ | refine g_draw Tryd.mixed ?_ | refine awp_block ?_ | refine awp_skip ?_ | (refine awp_exit ?_; simp only [thenA, blockA, ↓reduceIte, Nat.reduceEqDiff, reduceCtorEq]))
      refine ⟨i + 1, ⟨hlt, allB_up ha hv⟩, ?_, ?_, ?_⟩
      · (simp only [go_sem, inAV, k1, k2, hx, hb, tmAV, hs, k3])
      · (simp only [go_sem, inAV, k1, k2, hx, hb, tmAV, hs, k3])
      · omega
    have k3 : (0 : Int) < (i : Int) := by omega
    have k4 : IntKind.i64.wrap ((i : Int) - 1) = ((i - 1 : Nat) : Int) := i64m i 1 (by omega) (by omega)
    have k5 : ((i - 1 : Nat) : Int) < (r.timers.length : Int) := by omega
    obtain ⟨y, hy⟩ : ∃ y, r.timers[i - 1]? = some y := ⟨r.timers[i - 1], List.getElem?_eq_getElem (by omega)⟩
    have hv : tmAt r.timers i = !(Op.bytesLess x.1 y.1 || x.1 == y.1) := by unfold tmAt clkB; rw [getD_is hx, getD_is hy, hb, le_split, hs, decide_eq_false h0, less_turn]; rfl
    by_cases hc : (Op.bytesLess x.1 y.1 || x.1 == y.1) = true
    · rw [allB_false hlt (by rw [hv, hc]; rfl)]
      repeat (first | refine aops_op' rfl (by simp only [go_sem, inAV, k1, k2, hx, hb, tmAV, hs, k3, k4, k5, hy, hc]; exact ⟨rfl, rfl⟩) ?_ | refine g_run ?_ | refine g_off ?_ | refine aops_nil (d_end ?_) | refine aops_nil ?_ | refine awp_seq ?_ | refine g_text ?_ | refine g_draw Tryd.mixed ?_ | refine awp_block ?_ | refine awp_skip ?_ | (refine awp_exit ?_; simp only [thenA, blockA, ↓reduceIte, Nat.reduceEqDiff, reduceCtorEq]))
      refine awp_yes' (by simp only [go_sem, inAV, k1, k2, hx, hb, tmAV, hs, k3, k4, k5, hy, hc]; exact Is.rfl') ?_
      repeat (first | refine aops_op' rfl (by simp only [go_sem, inAV, k1, k2, hx, hb, tmAV, hs, k3, k4, k5, hy, hc]; exact ⟨rfl, rfl⟩) ?_ | refine g_run ?_ | refine g_off ?_ | refine aops_nil (d_end ?_) | refine aops_nil ?_ | refine awp_seq ?_ | refine g_text ?_ | refine g_draw Tryd.mixed ?_ | refine awp_block ?_ | refine awp_skip ?_ | (refine awp_exit ?_; simp only [thenA, blockA, ↓reduceIte, Nat.reduceEqDiff, reduceCtorEq]))
      refine aops_call' rfl (w_name_con env x.1) (by simp only [go_sem, inAV, k1, k2, hx, hb, tmAV, hs, k3, k4, k5, hy, hc]; exact Is.rfl') (by simp only [go_sem, inAV, k1, k2, hx, hb, tmAV, hs, k3, k4, k5, hy, hc]; exact ⟨rfl, rfl⟩) ?_
      repeat (first | refine aops_op' rfl (by simp only [go_sem, inAV, k1, k2, hx, hb, tmAV, hs, k3, k4, k5, hy, hc]; exact ⟨rfl, rfl⟩) ?_ | refine g_run ?_ | refine g_off ?_ | refine aops_nil (d_end ?_) | refine aops_nil ?_ | refine awp_seq ?_ | refine g_text ?_ | refine g_draw Tryd.mixed ?_ | refine awp_block ?_ | refine awp_skip ?_ | (refine awp_exit ?_; simp only [thenA, blockA, ↓reduceIte, Nat.reduceEqDiff, reduceCtorEq]))
      refine aops_call' rfl (w_between_con env x.2 0 1099511627776) (by simp only [go_sem, inAV, k1, k2, hx, hb, tmAV, hs, k3, k4, k5, hy, hc]; exact Is.rfl') (by simp only [go_sem, inAV, k1, k2, hx, hb, tmAV, hs, k3, k4, k5, hy, hc]; exact ⟨rfl, rfl⟩) ?_
      repeat (first | refine aops_op' rfl (by simp only [go_sem, inAV, k1, k2, hx, hb, tmAV, hs, k3, k4, k5, hy, hc]; exact ⟨rfl, rfl⟩) ?_ | refine g_run ?_ | refine g_off ?_ | refine aops_nil (d_end ?_) | refine aops_nil ?_ | refine awp_seq ?_ | refine g_text ?_ | refine g_draw Tryd.mixed ?_ | refine awp_block ?_ | refine awp_skip ?_ | (refine awp_exit ?_; simp only [thenA, blockA, ↓reduceIte, Nat.reduceEqDiff, reduceCtorEq]))
      refine awp_yes' (by simp only [go_sem, inAV, k1, k2, hx, hb, tmAV, hs, k3, k4, k5, hy, hc]; exact Is.rfl') ?_
      repeat (first | refine aops_op' rfl (by simp only [go_sem, inAV, k1, k2, hx, hb, tmAV, hs, k3, k4, k5, hy, hc]; exact ⟨rfl, rfl⟩) ?_ | refine g_run ?_ | refine g_off ?_ | refine aops_nil (d_end ?_) | refine aops_nil ?_ | refine awp_seq ?_ | refine g_text ?_ | refine g_draw Tryd.mixed ?_ | refine awp_block ?_ | refine awp_skip ?_ | (refine awp_exit ?_; simp only [thenA, blockA, ↓reduceIte, Nat.reduceEqDiff, reduceCtorEq]))
      (refine awp_ret ?_; show (resRd _ _ _).run _ = some _; simp only [go_sem, inAV, k1, k2, hx, hb, tmAV, hs, k3, k4, k5, hy, hc])
    · have hc : (Op.bytesLess x.1 y.1 || x.1 == y.1) = false := by simpa using hc
      repeat (first | refine aops_op' rfl (by simp only [go_sem, inAV, k1, k2, hx, hb, tmAV, hs, k3, k4, k5, hy, hc]; exact ⟨rfl, rfl⟩) ?_ | refine g_run ?_ | refine g_off ?_ | refine aops_nil (d_end ?_) | refine aops_nil ?_ | refine awp_seq ?_ | refine g_text ?_ | refine g_draw Tryd.mixed ?_ | refine awp_block ?_ | refine awp_skip ?_ | (refine awp_exit ?_; simp only [thenA, blockA, ↓reduceIte, Nat.reduceEqDiff, reduceCtorEq]))
      refine awp_yes' (by simp only [go_sem, inAV, k1, k2, hx, hb, tmAV, hs, k3, k4, k5, hy, hc]; exact Is.rfl') ?_
      repeat (first | refine aops_op' rfl (by simp only [go_sem, inAV, k1, k2, hx, hb, tmAV, hs, k3, k4, k5, hy, hc]; exact ⟨rfl, rfl⟩) ?_ | refine g_run ?_ | refine g_off ?_ | refine aops_nil (d_end ?_) | refine aops_nil ?_ | refine awp_seq ?_ | refine g_text ?_ | refine g_draw Tryd.mixed ?_ | refine awp_block ?_ | refine awp_skip ?_ | (refine awp_exit ?_; simp only [thenA, blockA, ↓reduceIte, Nat.reduceEqDiff, reduceCtorEq]))
      refine aops_call' rfl (w_name_con env x.1) (by simp only [go_sem, inAV, k1, k2, hx, hb, tmAV, hs, k3, k4, k5, hy, hc]; exact Is.rfl') (by simp only [go_sem, inAV, k1, k2, hx, hb, tmAV, hs, k3, k4, k5, hy, hc]; exact ⟨rfl, rfl⟩) ?_
      repeat (first | refine aops_op' rfl (by simp only [go_sem, inAV, k1, k2, hx, hb, tmAV, hs, k3, k4, k5, hy, hc]; exact ⟨rfl, rfl⟩) ?_ | refine g_run ?_ | refine g_off ?_ | refine aops_nil (d_end ?_) | refine aops_nil ?_ | refine awp_seq ?_ | refine g_text ?_ | refine g_draw Tryd.mixed ?_ | refine awp_block ?_ | refine awp_skip ?_ | (refine awp_exit ?_; simp only [thenA, blockA, ↓reduceIte, Nat.reduceEqDiff, reduceCtorEq]))
      refine aops_call' rfl (w_between_con env x.2 0 1099511627776) (by simp only [go_sem, inAV, k1, k2, hx, hb, tmAV, hs, k3, k4, k5, hy, hc]; exact Is.rfl') (by simp only [go_sem, inAV, k1, k2, hx, hb, tmAV, hs, k3, k4, k5, hy, hc]; exact ⟨rfl, rfl⟩) ?_
      repeat (first | refine aops_op' rfl (by simp only [go_sem, inAV, k1, k2, hx, hb, tmAV, hs, k3, k4, k5, hy, hc]; exact ⟨rfl, rfl⟩) ?_ | refine g_run ?_ | refine g_off ?_ | refine aops_nil (d_end ?_) | refine aops_nil ?_ | refine awp_seq ?_ | refine g_text ?_ | refine g_draw Tryd.mixed ?_ | refine awp_block ?_ | refine awp_skip ?_ | (refine awp_exit ?_; simp only [thenA, blockA, ↓reduceIte, Nat.reduceEqDiff, reduceCtorEq]))
      refine awp_no' (by simp only [go_sem, inAV, k1, k2, hx, hb, tmAV, hs, k3, k4, k5, hy, hc]; exact Is.rfl') ?_
      repeat (first | refine aops_op' rfl (by simp only [go_sem, inAV, k1, k2, hx, hb, tmAV, hs, k3, k4, k5, hy, hc]; exact ⟨rfl, rfl⟩) ?_ | refine g_run ?_ | refine g_off ?_ | refine aops_nil (d_end ?_) | refine aops_nil ?_ | refine awp_seq ?_ | refine g_text ?_ | refine g_draw Tryd.mixed ?_ | refine awp_block ?_ | refine awp_skip ?_ | (refine awp_exit ?_; simp only [thenA, blockA, ↓reduceIte, Nat.reduceEqDiff, reduceCtorEq]))
      refine ⟨i + 1, ⟨hlt, allB_up ha (by rw [hv, hc]; rfl)⟩, ?_, ?_, ?_⟩
      · (simp only [go_sem, inAV, k1, k2, hx, hb, tmAV, hs, k3, k4, k5, hy, hc])
      · (simp only [go_sem, inAV, k1, k2, hx, hb, tmAV, hs, k3, k4, k5, hy, hc])
      · omega
  have k1 : ¬ (i : Int) < (r.timers.length : Int) := by omega
  rw [allB_true (n := r.timers.length) fun j hj => ha j (by omega)]
  repeat (first | refine aops_op' rfl (by simp only [go_sem, inAV, k1]; exact ⟨rfl, rfl⟩) ?_ | refine g_run ?_ | refine g_off ?_ | refine aops_nil (d_end ?_) | refine aops_nil ?_ | refine awp_seq ?_ | refine g_text ?_ | refine g_draw Tryd.mixed ?_ | refine awp_block ?_ | refine awp_skip ?_ | (refine awp_exit ?_; simp only [thenA, blockA, ↓reduceIte, Nat.reduceEqDiff, reduceCtorEq]))
  refine awp_no' (by simp only [go_sem, inAV, k1]; exact Is.rfl') ?_
  repeat (first | refine aops_op' rfl (by simp only [go_sem, inAV, k1]; exact ⟨rfl, rfl⟩) ?_ | refine g_run ?_ | refine g_off ?_ | refine aops_nil (d_end ?_) | refine aops_nil ?_ | refine awp_seq ?_ | refine g_text ?_ | refine g_draw Tryd.mixed ?_ | refine awp_block ?_ | refine awp_skip ?_ | (refine awp_exit ?_; simp only [thenA, blockA, ↓reduceIte, Nat.reduceEqDiff, reduceCtorEq]))
  (refine awp_ret ?_; show (resRd _ _ _).run _ = some _; simp only [go_sem, inAV, k1])
end Go.Proofs.YtbnanjcghhfcpaaDoor
