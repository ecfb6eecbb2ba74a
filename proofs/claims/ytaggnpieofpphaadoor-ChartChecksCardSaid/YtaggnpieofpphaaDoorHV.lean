/- scriniumref24.Tran, Check: by the walk without memory. -/
import Derived.Test.YtaggnpieofpphaaDoorHU
import Derived.Test.YtaggnpieofpphaaDoorHX
import Derived.Test.YtaggnpieofpphaaDoorHC
set_option linter.unusedSimpArgs false
namespace Go.Proofs.YtaggnpieofpphaaDoor
open Go.RowKit
set_option maxRecDepth 100000
set_option maxHeartbeats 8000000
attribute [local go_sem_proc] reduceIte reduceCtorEq Nat.reduceAdd Nat.reduceSub Nat.reduceEqDiff Nat.reduceLT Nat.reduceLeDiff Nat.reduceMul Int.reduceToNat Int.reduceBEq Int.reduceBNe Int.reduceEq Int.reduceLT Int.reduceLE
attribute [local go_sem] resRd resOne resAll HoldF HoldR Takes thenA blockA ev_move ev_assign ev_pick ev_alloc ev_box ev_build ev_buildSlice ev_load ev_store ev_binOp ev_unOp ev_convert ev_iface ev_make ev_slice ev_fieldAddr ev_field ev_indexAddr ev_index ev_extract ev_len ev_append ev_min ev_max evMin evMax gt_tmp gt_int gt_bool gt_str gt_nilS gt_nilP gt_nilI pickRd allocRd buildRd sliceRd loadRd unRd ifaceRd exRd val optRd callRd seen AV.plain adopt fzArgs Rd.run AV.asCells newBox runL Comes' Rd.row Rd.bind Out.app apps Eff.app St.renew St.setRow St.show St.put St.init upd evStore evBin eqFs eqCell evConv evSeq evLen evIndexAddr evFieldAddr evField evIndex bound evSlice evAppend evMake loadOf fillAV fillEs fzParts fz fzCell fzCells shows isConstOp splice wrs wes Value.oneCell' List.getD_cons_zero List.getD_cons_succ List.getD_nil List.length_cons List.length_nil List.map_cons List.map_nil List.nil_append List.cons_append List.all_cons List.all_nil List.getElem?_cons_zero List.getElem?_cons_succ List.set_cons_zero List.set_cons_succ List.take_succ_cons List.take_zero List.drop_succ_cons List.drop_zero List.take_nil List.drop_nil List.replicate_succ List.replicate_zero Bool.and_true Bool.true_and Bool.and_self and_self true_and and_true Nat.zero_add Nat.add_zero Option.some.injEq Nat.zero_lt_succ Bool.not_true Bool.not_false ne_eq not_true_eq_false not_false_eq_true Option.map_some Option.map_none List.toList_toArray head headF headR List.length_map Int.toNat_natCast Int.natCast_nonneg List.getElem?_map decide_true decide_false Bool.false_eq_true if_true if_false Bool.or_self Bool.or_true Bool.true_or Bool.false_or Bool.or_false Bool.and_false Bool.false_and List.flatten_cons List.flatten_nil List.append_nil nat0 or_self or_false false_or or_true true_or and_false false_and List.length_append List.isEmpty_nil bne_self_eq_false beq_self_eq_true fits_small strL_l bytesOf_map wants Int.cast_ofNat_Int gt_iff_lt ge_iff_le
attribute [local go_sem ←] List.map_drop List.map_take

theorem rState_con (env : Env) (c : ChD) (hn : c.states.length ≤ 1000000) (i : Nat) (s : StD) (hs : c.states[i]? = some s) : Con Tryd.prog env 49 [.agg (chAV c), I i] (B (stateB c i s)) := by
  by_cases hp : s.parent = -1
  · exact rStateTop_con env c hn i s hs hp
  · exact rStateIn_con env c hn i s hs hp
theorem rTran_con (env : Env) (c : ChD) (t : TrD) : Con Tryd.prog env 51 [.agg (chAV c), .agg (trAV t)] (B (tranB c t)) := by
  have f2 := w_name_con env t.event
  have f3 := rCode_con env c t.guard
  have f4 := rActs_con env c t.acts
  have z1 := nil_len t.guard
  refine con_of_body Tryd.func51 rfl Tryd.call51 (by rw [Tryd.ntmps51]; simp) ?_
  rw [Tryd.ntmps51, Tryd.results51]
  by_cases p1 : t.src < 0
  · rw [show tranB c t = false by unfold tranB normAt at_; rw [if_neg (show ¬ 0 ≤ t.src by omega)]; rfl]
    repeat (first | refine aops_op' rfl (by simp only [go_sem, chAV, trAV, p1]; exact ⟨rfl, rfl⟩) ?_ | refine g_run ?_ | refine g_off ?_ | refine aops_nil (d_end ?_) | refine aops_nil ?_ | refine awp_seq ?_ | refine g_text ?_ | refine g_draw Tryd.mixed ?_ | refine awp_block ?_ | refine awp_skip ?_ | (refine awp_exit ?_; simp only [thenA, blockA, ↓reduceIte, Nat.reduceEqDiff, reduceCtorEq]) | refine awp_yes' (by simp only [go_sem, chAV, trAV, p1]; exact Is.rfl') ?_ | refine awp_no' (by simp only [go_sem, chAV, trAV, p1]; exact Is.rfl') ?_)
    (refine awp_ret ?_; show (resRd _ _ _).run _ = some _; simp only [go_sem, chAV, trAV, p1])
  obtain ⟨m, hm⟩ := nat_of (show 0 ≤ t.src by omega)
  have p1 : ¬ (m : Int) < 0 := by omega
  by_cases p2 : c.states.length ≤ m
  · have p2' : (c.states.length : Int) ≤ (m : Int) := by omega
    rw [show tranB c t = false by unfold tranB normAt; rw [hm, at_nat, List.getElem?_eq_none p2]; rfl]
    repeat (first | refine aops_op' rfl (by simp only [go_sem, chAV, trAV, hm, p1, p2']; exact ⟨rfl, rfl⟩) ?_ | refine g_run ?_ | refine g_off ?_ | refine aops_nil (d_end ?_) | refine aops_nil ?_ | refine awp_seq ?_ | refine g_text ?_ | refine g_draw Tryd.mixed ?_ | refine awp_block ?_ | refine awp_skip ?_ | (refine awp_exit ?_; simp only [thenA, blockA, ↓reduceIte, Nat.reduceEqDiff, reduceCtorEq]) | refine awp_yes' (by simp only [go_sem, chAV, trAV, hm, p1, p2']; exact Is.rfl') ?_ | refine awp_no' (by simp only [go_sem, chAV, trAV, hm, p1, p2']; exact Is.rfl') ?_)
    (refine awp_ret ?_; show (resRd _ _ _).run _ = some _; simp only [go_sem, chAV, trAV, hm, p1, p2'])
  have p2' : ¬ (c.states.length : Int) ≤ (m : Int) := by omega
  have k0 := nlt (show m < c.states.length by omega)
  obtain ⟨q, hq, _⟩ := some_at (show m < c.states.length by omega)
  have f1 := rNormal_con env q
  have hnq : normAt c t.src = normB q := by unfold normAt; rw [hm, at_nat, hq]
  have hr : tranB c t = (normB q && ((t.event == []) || nameB t.event) && ((t.guard == []) || codeB t.guard c.vars.length c.states.length) && actsB c.vars.length c.states.length t.acts && ((t.target == -1) || (decide (0 ≤ t.target) && decide (t.target < c.states.length)))) := by unfold tranB; rw [hnq]
  rw [hr]
  cases e1 : normB q
  · rw [Bool.false_and, Bool.false_and, Bool.false_and, Bool.false_and]
    repeat (first | refine aops_op' rfl (by simp only [go_sem, chAV, trAV, stAV, hm, hq, p1, p2', k0, e1]; exact ⟨rfl, rfl⟩) ?_ | refine g_run ?_ | refine g_off ?_ | refine aops_call' rfl (f1) (by simp only [go_sem, chAV, trAV, stAV, hm, hq, p1, p2', k0, e1]; exact Is.rfl') (by simp only [go_sem, chAV, trAV, stAV, hm, hq, p1, p2', k0, e1]; exact ⟨rfl, rfl⟩) ?_ | refine aops_nil (d_end ?_) | refine aops_nil ?_ | refine awp_seq ?_ | refine g_text ?_ | refine g_draw Tryd.mixed ?_ | refine awp_block ?_ | refine awp_skip ?_ | (refine awp_exit ?_; simp only [thenA, blockA, ↓reduceIte, Nat.reduceEqDiff, reduceCtorEq]) | refine awp_yes' (by simp only [go_sem, chAV, trAV, stAV, hm, hq, p1, p2', k0, e1]; exact Is.rfl') ?_ | refine awp_no' (by simp only [go_sem, chAV, trAV, stAV, hm, hq, p1, p2', k0, e1]; exact Is.rfl') ?_)
    (refine awp_ret ?_; show (resRd _ _ _).run _ = some _; simp only [go_sem, chAV, trAV, stAV, hm, hq, p1, p2', k0, e1])
  by_cases p3 : t.target < -1
  · rw [show ((t.target == -1) || (decide (0 ≤ t.target) && decide (t.target < c.states.length))) = false by rw [ne_beq (show t.target ≠ -1 by omega), decide_eq_false (show ¬ 0 ≤ t.target by omega)]; rfl, Bool.and_false]
    repeat (first | refine aops_op' rfl (by simp only [go_sem, chAV, trAV, stAV, hm, hq, p1, p2', k0, e1, p3]; exact ⟨rfl, rfl⟩) ?_ | refine g_run ?_ | refine g_off ?_ | refine aops_call' rfl (f1) (by simp only [go_sem, chAV, trAV, stAV, hm, hq, p1, p2', k0, e1, p3]; exact Is.rfl') (by simp only [go_sem, chAV, trAV, stAV, hm, hq, p1, p2', k0, e1, p3]; exact ⟨rfl, rfl⟩) ?_ | refine aops_nil (d_end ?_) | refine aops_nil ?_ | refine awp_seq ?_ | refine g_text ?_ | refine g_draw Tryd.mixed ?_ | refine awp_block ?_ | refine awp_skip ?_ | (refine awp_exit ?_; simp only [thenA, blockA, ↓reduceIte, Nat.reduceEqDiff, reduceCtorEq]) | refine awp_yes' (by simp only [go_sem, chAV, trAV, stAV, hm, hq, p1, p2', k0, e1, p3]; exact Is.rfl') ?_ | refine awp_no' (by simp only [go_sem, chAV, trAV, stAV, hm, hq, p1, p2', k0, e1, p3]; exact Is.rfl') ?_)
    (refine awp_ret ?_; show (resRd _ _ _).run _ = some _; simp only [go_sem, chAV, trAV, stAV, hm, hq, p1, p2', k0, e1, p3])
  by_cases p4 : (c.states.length : Int) ≤ t.target
  · rw [show ((t.target == -1) || (decide (0 ≤ t.target) && decide (t.target < c.states.length))) = false by rw [ne_beq (show t.target ≠ -1 by omega), decide_eq_false (show ¬ t.target < c.states.length by omega)]; simp, Bool.and_false]
    repeat (first | refine aops_op' rfl (by simp only [go_sem, chAV, trAV, stAV, hm, hq, p1, p2', k0, e1, p3, p4]; exact ⟨rfl, rfl⟩) ?_ | refine g_run ?_ | refine g_off ?_ | refine aops_call' rfl (f1) (by simp only [go_sem, chAV, trAV, stAV, hm, hq, p1, p2', k0, e1, p3, p4]; exact Is.rfl') (by simp only [go_sem, chAV, trAV, stAV, hm, hq, p1, p2', k0, e1, p3, p4]; exact ⟨rfl, rfl⟩) ?_ | refine aops_nil (d_end ?_) | refine aops_nil ?_ | refine awp_seq ?_ | refine g_text ?_ | refine g_draw Tryd.mixed ?_ | refine awp_block ?_ | refine awp_skip ?_ | (refine awp_exit ?_; simp only [thenA, blockA, ↓reduceIte, Nat.reduceEqDiff, reduceCtorEq]) | refine awp_yes' (by simp only [go_sem, chAV, trAV, stAV, hm, hq, p1, p2', k0, e1, p3, p4]; exact Is.rfl') ?_ | refine awp_no' (by simp only [go_sem, chAV, trAV, stAV, hm, hq, p1, p2', k0, e1, p3, p4]; exact Is.rfl') ?_)
    (refine awp_ret ?_; show (resRd _ _ _).run _ = some _; simp only [go_sem, chAV, trAV, stAV, hm, hq, p1, p2', k0, e1, p3, p4])
  rw [show ((t.target == -1) || (decide (0 ≤ t.target) && decide (t.target < c.states.length))) = true by rw [Bool.or_eq_true, Bool.and_eq_true]; simp; omega, Bool.and_true, Bool.true_and]
  cases e2 : (t.event == [])
  · rw [Bool.false_or]
    cases e3 : nameB t.event
    · rw [Bool.false_and, Bool.false_and]
      repeat (first | refine aops_op' rfl (by simp only [go_sem, chAV, trAV, stAV, hm, hq, p1, p2', k0, e1, p3, p4, e2, e3]; exact ⟨rfl, rfl⟩) ?_ | refine g_run ?_ | refine g_off ?_ | refine aops_call' rfl (f1) (by simp only [go_sem, chAV, trAV, stAV, hm, hq, p1, p2', k0, e1, p3, p4, e2, e3]; exact Is.rfl') (by simp only [go_sem, chAV, trAV, stAV, hm, hq, p1, p2', k0, e1, p3, p4, e2, e3]; exact ⟨rfl, rfl⟩) ?_ | refine aops_call' rfl (f2) (by simp only [go_sem, chAV, trAV, stAV, hm, hq, p1, p2', k0, e1, p3, p4, e2, e3]; exact Is.rfl') (by simp only [go_sem, chAV, trAV, stAV, hm, hq, p1, p2', k0, e1, p3, p4, e2, e3]; exact ⟨rfl, rfl⟩) ?_ | refine aops_nil (d_end ?_) | refine aops_nil ?_ | refine awp_seq ?_ | refine g_text ?_ | refine g_draw Tryd.mixed ?_ | refine awp_block ?_ | refine awp_skip ?_ | (refine awp_exit ?_; simp only [thenA, blockA, ↓reduceIte, Nat.reduceEqDiff, reduceCtorEq]) | refine awp_yes' (by simp only [go_sem, chAV, trAV, stAV, hm, hq, p1, p2', k0, e1, p3, p4, e2, e3]; exact Is.rfl') ?_ | refine awp_no' (by simp only [go_sem, chAV, trAV, stAV, hm, hq, p1, p2', k0, e1, p3, p4, e2, e3]; exact Is.rfl') ?_)
      (refine awp_ret ?_; show (resRd _ _ _).run _ = some _; simp only [go_sem, chAV, trAV, stAV, hm, hq, p1, p2', k0, e1, p3, p4, e2, e3])
    rw [Bool.true_and]
    cases e4 : (t.guard == [])
    · rw [Bool.false_or]
      cases e5 : codeB t.guard c.vars.length c.states.length
      · rw [Bool.false_and]
        repeat (first | refine aops_op' rfl (by simp only [go_sem, chAV, trAV, stAV, hm, hq, p1, p2', k0, e1, p3, p4, e2, e3, z1, e4, e5]; exact ⟨rfl, rfl⟩) ?_ | refine g_run ?_ | refine g_off ?_ | refine aops_call' rfl (f1) (by simp only [go_sem, chAV, trAV, stAV, hm, hq, p1, p2', k0, e1, p3, p4, e2, e3, z1, e4, e5]; exact Is.rfl') (by simp only [go_sem, chAV, trAV, stAV, hm, hq, p1, p2', k0, e1, p3, p4, e2, e3, z1, e4, e5]; exact ⟨rfl, rfl⟩) ?_ | refine aops_call' rfl (f2) (by simp only [go_sem, chAV, trAV, stAV, hm, hq, p1, p2', k0, e1, p3, p4, e2, e3, z1, e4, e5]; exact Is.rfl') (by simp only [go_sem, chAV, trAV, stAV, hm, hq, p1, p2', k0, e1, p3, p4, e2, e3, z1, e4, e5]; exact ⟨rfl, rfl⟩) ?_ | refine aops_call' rfl (f3) (by simp only [go_sem, chAV, trAV, stAV, hm, hq, p1, p2', k0, e1, p3, p4, e2, e3, z1, e4, e5]; exact Is.rfl') (by simp only [go_sem, chAV, trAV, stAV, hm, hq, p1, p2', k0, e1, p3, p4, e2, e3, z1, e4, e5]; exact ⟨rfl, rfl⟩) ?_ | refine aops_call' rfl (f4) (by simp only [go_sem, chAV, trAV, stAV, hm, hq, p1, p2', k0, e1, p3, p4, e2, e3, z1, e4, e5]; exact Is.rfl') (by simp only [go_sem, chAV, trAV, stAV, hm, hq, p1, p2', k0, e1, p3, p4, e2, e3, z1, e4, e5]; exact ⟨rfl, rfl⟩) ?_ | refine aops_nil (d_end ?_) | refine aops_nil ?_ | refine awp_seq ?_ | refine g_text ?_ | refine g_draw Tryd.mixed ?_ | refine awp_block ?_ | refine awp_skip ?_ | (refine awp_exit ?_; simp only [thenA, blockA, ↓reduceIte, Nat.reduceEqDiff, reduceCtorEq]) | refine awp_yes' (by simp only [go_sem, chAV, trAV, stAV, hm, hq, p1, p2', k0, e1, p3, p4, e2, e3, z1, e4, e5]; exact Is.rfl') ?_ | refine awp_no' (by simp only [go_sem, chAV, trAV, stAV, hm, hq, p1, p2', k0, e1, p3, p4, e2, e3, z1, e4, e5]; exact Is.rfl') ?_)
        (refine awp_ret ?_; show (resRd _ _ _).run _ = some _; simp only [go_sem, chAV, trAV, stAV, hm, hq, p1, p2', k0, e1, p3, p4, e2, e3, z1, e4, e5])
      · rw [Bool.true_and]
        repeat (first | refine aops_op' rfl (by simp only [go_sem, chAV, trAV, stAV, hm, hq, p1, p2', k0, e1, p3, p4, e2, e3, z1, e4, e5]; exact ⟨rfl, rfl⟩) ?_ | refine g_run ?_ | refine g_off ?_ | refine aops_call' rfl (f1) (by simp only [go_sem, chAV, trAV, stAV, hm, hq, p1, p2', k0, e1, p3, p4, e2, e3, z1, e4, e5]; exact Is.rfl') (by simp only [go_sem, chAV, trAV, stAV, hm, hq, p1, p2', k0, e1, p3, p4, e2, e3, z1, e4, e5]; exact ⟨rfl, rfl⟩) ?_ | refine aops_call' rfl (f2) (by simp only [go_sem, chAV, trAV, stAV, hm, hq, p1, p2', k0, e1, p3, p4, e2, e3, z1, e4, e5]; exact Is.rfl') (by simp only [go_sem, chAV, trAV, stAV, hm, hq, p1, p2', k0, e1, p3, p4, e2, e3, z1, e4, e5]; exact ⟨rfl, rfl⟩) ?_ | refine aops_call' rfl (f3) (by simp only [go_sem, chAV, trAV, stAV, hm, hq, p1, p2', k0, e1, p3, p4, e2, e3, z1, e4, e5]; exact Is.rfl') (by simp only [go_sem, chAV, trAV, stAV, hm, hq, p1, p2', k0, e1, p3, p4, e2, e3, z1, e4, e5]; exact ⟨rfl, rfl⟩) ?_ | refine aops_call' rfl (f4) (by simp only [go_sem, chAV, trAV, stAV, hm, hq, p1, p2', k0, e1, p3, p4, e2, e3, z1, e4, e5]; exact Is.rfl') (by simp only [go_sem, chAV, trAV, stAV, hm, hq, p1, p2', k0, e1, p3, p4, e2, e3, z1, e4, e5]; exact ⟨rfl, rfl⟩) ?_ | refine aops_nil (d_end ?_) | refine aops_nil ?_ | refine awp_seq ?_ | refine g_text ?_ | refine g_draw Tryd.mixed ?_ | refine awp_block ?_ | refine awp_skip ?_ | (refine awp_exit ?_; simp only [thenA, blockA, ↓reduceIte, Nat.reduceEqDiff, reduceCtorEq]) | refine awp_yes' (by simp only [go_sem, chAV, trAV, stAV, hm, hq, p1, p2', k0, e1, p3, p4, e2, e3, z1, e4, e5]; exact Is.rfl') ?_ | refine awp_no' (by simp only [go_sem, chAV, trAV, stAV, hm, hq, p1, p2', k0, e1, p3, p4, e2, e3, z1, e4, e5]; exact Is.rfl') ?_)
        (refine awp_ret ?_; show (resRd _ _ _).run _ = some _; simp only [go_sem, chAV, trAV, stAV, hm, hq, p1, p2', k0, e1, p3, p4, e2, e3, z1, e4, e5])
    · rw [Bool.true_or, Bool.true_and]
      repeat (first | refine aops_op' rfl (by simp only [go_sem, chAV, trAV, stAV, hm, hq, p1, p2', k0, e1, p3, p4, e2, e3, z1, e4]; exact ⟨rfl, rfl⟩) ?_ | refine g_run ?_ | refine g_off ?_ | refine aops_call' rfl (f1) (by simp only [go_sem, chAV, trAV, stAV, hm, hq, p1, p2', k0, e1, p3, p4, e2, e3, z1, e4]; exact Is.rfl') (by simp only [go_sem, chAV, trAV, stAV, hm, hq, p1, p2', k0, e1, p3, p4, e2, e3, z1, e4]; exact ⟨rfl, rfl⟩) ?_ | refine aops_call' rfl (f2) (by simp only [go_sem, chAV, trAV, stAV, hm, hq, p1, p2', k0, e1, p3, p4, e2, e3, z1, e4]; exact Is.rfl') (by simp only [go_sem, chAV, trAV, stAV, hm, hq, p1, p2', k0, e1, p3, p4, e2, e3, z1, e4]; exact ⟨rfl, rfl⟩) ?_ | refine aops_call' rfl (f3) (by simp only [go_sem, chAV, trAV, stAV, hm, hq, p1, p2', k0, e1, p3, p4, e2, e3, z1, e4]; exact Is.rfl') (by simp only [go_sem, chAV, trAV, stAV, hm, hq, p1, p2', k0, e1, p3, p4, e2, e3, z1, e4]; exact ⟨rfl, rfl⟩) ?_ | refine aops_call' rfl (f4) (by simp only [go_sem, chAV, trAV, stAV, hm, hq, p1, p2', k0, e1, p3, p4, e2, e3, z1, e4]; exact Is.rfl') (by simp only [go_sem, chAV, trAV, stAV, hm, hq, p1, p2', k0, e1, p3, p4, e2, e3, z1, e4]; exact ⟨rfl, rfl⟩) ?_ | refine aops_nil (d_end ?_) | refine aops_nil ?_ | refine awp_seq ?_ | refine g_text ?_ | refine g_draw Tryd.mixed ?_ | refine awp_block ?_ | refine awp_skip ?_ | (refine awp_exit ?_; simp only [thenA, blockA, ↓reduceIte, Nat.reduceEqDiff, reduceCtorEq]) | refine awp_yes' (by simp only [go_sem, chAV, trAV, stAV, hm, hq, p1, p2', k0, e1, p3, p4, e2, e3, z1, e4]; exact Is.rfl') ?_ | refine awp_no' (by simp only [go_sem, chAV, trAV, stAV, hm, hq, p1, p2', k0, e1, p3, p4, e2, e3, z1, e4]; exact Is.rfl') ?_)
      (refine awp_ret ?_; show (resRd _ _ _).run _ = some _; simp only [go_sem, chAV, trAV, stAV, hm, hq, p1, p2', k0, e1, p3, p4, e2, e3, z1, e4])
  rw [Bool.true_or, Bool.true_and]
  cases e4 : (t.guard == [])
  · rw [Bool.false_or]
    cases e5 : codeB t.guard c.vars.length c.states.length
    · rw [Bool.false_and]
      repeat (first | refine aops_op' rfl (by simp only [go_sem, chAV, trAV, stAV, hm, hq, p1, p2', k0, e1, p3, p4, e2, z1, e4, e5]; exact ⟨rfl, rfl⟩) ?_ | refine g_run ?_ | refine g_off ?_ | refine aops_call' rfl (f1) (by simp only [go_sem, chAV, trAV, stAV, hm, hq, p1, p2', k0, e1, p3, p4, e2, z1, e4, e5]; exact Is.rfl') (by simp only [go_sem, chAV, trAV, stAV, hm, hq, p1, p2', k0, e1, p3, p4, e2, z1, e4, e5]; exact ⟨rfl, rfl⟩) ?_ | refine aops_call' rfl (f2) (by simp only [go_sem, chAV, trAV, stAV, hm, hq, p1, p2', k0, e1, p3, p4, e2, z1, e4, e5]; exact Is.rfl') (by simp only [go_sem, chAV, trAV, stAV, hm, hq, p1, p2', k0, e1, p3, p4, e2, z1, e4, e5]; exact ⟨rfl, rfl⟩) ?_ | refine aops_call' rfl (f3) (by simp only [go_sem, chAV, trAV, stAV, hm, hq, p1, p2', k0, e1, p3, p4, e2, z1, e4, e5]; exact Is.rfl') (by simp only [go_sem, chAV, trAV, stAV, hm, hq, p1, p2', k0, e1, p3, p4, e2, z1, e4, e5]; exact ⟨rfl, rfl⟩) ?_ | refine aops_call' rfl (f4) (by simp only [go_sem, chAV, trAV, stAV, hm, hq, p1, p2', k0, e1, p3, p4, e2, z1, e4, e5]; exact Is.rfl') (by simp only [go_sem, chAV, trAV, stAV, hm, hq, p1, p2', k0, e1, p3, p4, e2, z1, e4, e5]; exact ⟨rfl, rfl⟩) ?_ | refine aops_nil (d_end ?_) | refine aops_nil ?_ | refine awp_seq ?_ | refine g_text ?_ | refine g_draw Tryd.mixed ?_ | refine awp_block ?_ | refine awp_skip ?_ | (refine awp_exit ?_; simp only [thenA, blockA, ↓reduceIte, Nat.reduceEqDiff, reduceCtorEq]) | refine awp_yes' (by simp only [go_sem, chAV, trAV, stAV, hm, hq, p1, p2', k0, e1, p3, p4, e2, z1, e4, e5]; exact Is.rfl') ?_ | refine awp_no' (by simp only [go_sem, chAV, trAV, stAV, hm, hq, p1, p2', k0, e1, p3, p4, e2, z1, e4, e5]; exact Is.rfl') ?_)
      (refine awp_ret ?_; show (resRd _ _ _).run _ = some _; simp only [go_sem, chAV, trAV, stAV, hm, hq, p1, p2', k0, e1, p3, p4, e2, z1, e4, e5])
    · rw [Bool.true_and]
      repeat (first | refine aops_op' rfl (by simp only [go_sem, chAV, trAV, stAV, hm, hq, p1, p2', k0, e1, p3, p4, e2, z1, e4, e5]; exact ⟨rfl, rfl⟩) ?_ | refine g_run ?_ | refine g_off ?_ | refine aops_call' rfl (f1) (by simp only [go_sem, chAV, trAV, stAV, hm, hq, p1, p2', k0, e1, p3, p4, e2, z1, e4, e5]; exact Is.rfl') (by simp only [go_sem, chAV, trAV, stAV, hm, hq, p1, p2', k0, e1, p3, p4, e2, z1, e4, e5]; exact ⟨rfl, rfl⟩) ?_ | refine aops_call' rfl (f2) (by simp only [go_sem, chAV, trAV, stAV, hm, hq, p1, p2', k0, e1, p3, p4, e2, z1, e4, e5]; exact Is.rfl') (by simp only [go_sem, chAV, trAV, stAV, hm, hq, p1, p2', k0, e1, p3, p4, e2, z1, e4, e5]; exact ⟨rfl, rfl⟩) ?_ | refine aops_call' rfl (f3) (by simp only [go_sem, chAV, trAV, stAV, hm, hq, p1, p2', k0, e1, p3, p4, e2, z1, e4, e5]; exact Is.rfl') (by simp only [go_sem, chAV, trAV, stAV, hm, hq, p1, p2', k0, e1, p3, p4, e2, z1, e4, e5]; exact ⟨rfl, rfl⟩) ?_ | refine aops_call' rfl (f4) (by simp only [go_sem, chAV, trAV, stAV, hm, hq, p1, p2', k0, e1, p3, p4, e2, z1, e4, e5]; exact Is.rfl') (by simp only [go_sem, chAV, trAV, stAV, hm, hq, p1, p2', k0, e1, p3, p4, e2, z1, e4, e5]; exact ⟨rfl, rfl⟩) ?_ | refine aops_nil (d_end ?_) | refine aops_nil ?_ | refine awp_seq ?_ | refine g_text ?_ | refine g_draw Tryd.mixed ?_ | refine awp_block ?_ | refine awp_skip ?_ | (refine awp_exit ?_; simp only [thenA, blockA, ↓reduceIte, Nat.reduceEqDiff, reduceCtorEq]) | refine awp_yes' (by simp only [go_sem, chAV, trAV, stAV, hm, hq, p1, p2', k0, e1, p3, p4, e2, z1, e4, e5]; exact Is.rfl') ?_ | refine awp_no' (by simp only [go_sem, chAV, trAV, stAV, hm, hq, p1, p2', k0, e1, p3, p4, e2, z1, e4, e5]; exact Is.rfl') ?_)
      (refine awp_ret ?_; show (resRd _ _ _).run _ = some _; simp only [go_sem, chAV, trAV, stAV, hm, hq, p1, p2', k0, e1, p3, p4, e2, z1, e4, e5])
  · rw [Bool.true_or, Bool.true_and]
    repeat (first | refine aops_op' rfl (by simp only [go_sem, chAV, trAV, stAV, hm, hq, p1, p2', k0, e1, p3, p4, e2, z1, e4]; exact ⟨rfl, rfl⟩) ?_ | refine g_run ?_ | refine g_off ?_ | refine aops_call' rfl (f1) (by simp only [go_sem, chAV, trAV, stAV, hm, hq, p1, p2', k0, e1, p3, p4, e2, z1, e4]; exact Is.rfl') (by simp only [go_sem, chAV, trAV, stAV, hm, hq, p1, p2', k0, e1, p3, p4, e2, z1, e4]; exact ⟨rfl, rfl⟩) ?_ | refine aops_call' rfl (f2) (by simp only [go_sem, chAV, trAV, stAV, hm, hq, p1, p2', k0, e1, p3, p4, e2, z1, e4]; exact Is.rfl') (by simp only [go_sem, chAV, trAV, stAV, hm, hq, p1, p2', k0, e1, p3, p4, e2, z1, e4]; exact ⟨rfl, rfl⟩) ?_ | refine aops_call' rfl (f3) (by simp only [go_sem, chAV, trAV, stAV, hm, hq, p1, p2', k0, e1, p3, p4, e2, z1, e4]; exact Is.rfl') (by simp only [go_sem, chAV, trAV, stAV, hm, hq, p1, p2', k0, e1, p3, p4, e2, z1, e4]; exact ⟨rfl, rfl⟩) ?_ | refine aops_call' rfl (f4) (by simp only [go_sem, chAV, trAV, stAV, hm, hq, p1, p2', k0, e1, p3, p4, e2, z1, e4]; exact Is.rfl') (by simp only [go_sem, chAV, trAV, stAV, hm, hq, p1, p2', k0, e1, p3, p4, e2, z1, e4]; exact ⟨rfl, rfl⟩) ?_ | refine aops_nil (d_end ?_) | refine aops_nil ?_ | refine awp_seq ?_ | refine g_text ?_ | refine g_draw Tryd.mixed ?_ | refine awp_block ?_ | refine awp_skip ?_ | (refine awp_exit ?_; simp only [thenA, blockA, ↓reduceIte, Nat.reduceEqDiff, reduceCtorEq]) | refine awp_yes' (by simp only [go_sem, chAV, trAV, stAV, hm, hq, p1, p2', k0, e1, p3, p4, e2, z1, e4]; exact Is.rfl') ?_ | refine awp_no' (by simp only [go_sem, chAV, trAV, stAV, hm, hq, p1, p2', k0, e1, p3, p4, e2, z1, e4]; exact Is.rfl') ?_)
    (refine awp_ret ?_; show (resRd _ _ _).run _ = some _; simp only [go_sem, chAV, trAV, stAV, hm, hq, p1, p2', k0, e1, p3, p4, e2, z1, e4])

abbrev chkT (c : ChD) : AV := .tuple [I (chk c).1, I (chk c).2]
theorem chkT_is {c : ChD} {x : Int × Int} (h : chk c = x) : chkT c = .tuple [I x.1, I x.2] := by unfold chkT; rw [h]
theorem rCheck_con (env : Env) (c : ChD) : Con Tryd.prog env 17 [.agg (chAV c)] (chkT c) := by
  have fname := w_name_con env c.name
  have z1 := nil_len c.states
  refine con_of_body Tryd.func17 rfl Tryd.call17 (by rw [Tryd.ntmps17]; simp) ?_
  rw [Tryd.ntmps17, Tryd.results17]
  by_cases l1 : 32 < c.states.length
  · have k1 : (32 : Int) < (c.states.length : Int) := by omega
    rw [chkT_is (show chk c = (8, -1) by unfold chk; rw [if_pos (.inl l1)])]
    repeat (first | refine aops_op' rfl (by simp only [go_sem, chAV, k1]; exact ⟨rfl, rfl⟩) ?_ | refine g_run ?_ | refine g_off ?_ | refine aops_nil (d_end ?_) | refine aops_nil ?_ | refine awp_seq ?_ | refine g_text ?_ | refine g_draw Tryd.mixed ?_ | refine awp_block ?_ | refine awp_skip ?_ | (refine awp_exit ?_; simp only [thenA, blockA, ↓reduceIte, Nat.reduceEqDiff, reduceCtorEq]) | refine awp_yes' (by simp only [go_sem, chAV, k1]; exact Is.rfl') ?_ | refine awp_no' (by simp only [go_sem, chAV, k1]; exact Is.rfl') ?_)
    (refine awp_ret ?_; show (resRd _ _ _).run _ = some _; simp only [go_sem, chAV, k1])
  have k1 : ¬ (32 : Int) < (c.states.length : Int) := by omega
  by_cases l2 : 64 < c.trans.length
  · have k2 : (64 : Int) < (c.trans.length : Int) := by omega
    rw [chkT_is (show chk c = (8, -1) by unfold chk; rw [if_pos (.inr (.inl l2))])]
    repeat (first | refine aops_op' rfl (by simp only [go_sem, chAV, k1, k2]; exact ⟨rfl, rfl⟩) ?_ | refine g_run ?_ | refine g_off ?_ | refine aops_nil (d_end ?_) | refine aops_nil ?_ | refine awp_seq ?_ | refine g_text ?_ | refine g_draw Tryd.mixed ?_ | refine awp_block ?_ | refine awp_skip ?_ | (refine awp_exit ?_; simp only [thenA, blockA, ↓reduceIte, Nat.reduceEqDiff, reduceCtorEq]) | refine awp_yes' (by simp only [go_sem, chAV, k1, k2]; exact Is.rfl') ?_ | refine awp_no' (by simp only [go_sem, chAV, k1, k2]; exact Is.rfl') ?_)
    (refine awp_ret ?_; show (resRd _ _ _).run _ = some _; simp only [go_sem, chAV, k1, k2])
  have k2 : ¬ (64 : Int) < (c.trans.length : Int) := by omega
  by_cases l3 : 8 < c.vars.length
  · have k3 : (8 : Int) < (c.vars.length : Int) := by omega
    rw [chkT_is (show chk c = (8, -1) by unfold chk; rw [if_pos (.inr (.inr l3))])]
    repeat (first | refine aops_op' rfl (by simp only [go_sem, chAV, k1, k2, k3]; exact ⟨rfl, rfl⟩) ?_ | refine g_run ?_ | refine g_off ?_ | refine aops_nil (d_end ?_) | refine aops_nil ?_ | refine awp_seq ?_ | refine g_text ?_ | refine g_draw Tryd.mixed ?_ | refine awp_block ?_ | refine awp_skip ?_ | (refine awp_exit ?_; simp only [thenA, blockA, ↓reduceIte, Nat.reduceEqDiff, reduceCtorEq]) | refine awp_yes' (by simp only [go_sem, chAV, k1, k2, k3]; exact Is.rfl') ?_ | refine awp_no' (by simp only [go_sem, chAV, k1, k2, k3]; exact Is.rfl') ?_)
    (refine awp_ret ?_; show (resRd _ _ _).run _ = some _; simp only [go_sem, chAV, k1, k2, k3])
  have k3 : ¬ (8 : Int) < (c.vars.length : Int) := by omega
  have hl : ¬ (32 < c.states.length ∨ 64 < c.trans.length ∨ 8 < c.vars.length) := by omega
  cases e2 : (c.states == [])
  case true =>
    rw [chkT_is (show chk c = (1, -1) by unfold chk; rw [if_neg hl, if_pos (.inl (by simpa using e2))])]
    repeat (first | refine aops_op' rfl (by simp only [go_sem, chAV, k1, k2, k3, z1, e2]; exact ⟨rfl, rfl⟩) ?_ | refine g_run ?_ | refine g_off ?_ | refine aops_call' rfl (fname) (by simp only [go_sem, chAV, k1, k2, k3, z1, e2]; exact Is.rfl') (by simp only [go_sem, chAV, k1, k2, k3, z1, e2]; exact ⟨rfl, rfl⟩) ?_ | refine aops_nil (d_end ?_) | refine aops_nil ?_ | refine awp_seq ?_ | refine g_text ?_ | refine g_draw Tryd.mixed ?_ | refine awp_block ?_ | refine awp_skip ?_ | (refine awp_exit ?_; simp only [thenA, blockA, ↓reduceIte, Nat.reduceEqDiff, reduceCtorEq]) | refine awp_yes' (by simp only [go_sem, chAV, k1, k2, k3, z1, e2]; exact Is.rfl') ?_ | refine awp_no' (by simp only [go_sem, chAV, k1, k2, k3, z1, e2]; exact Is.rfl') ?_)
    (refine awp_ret ?_; show (resRd _ _ _).run _ = some _; simp only [go_sem, chAV, k1, k2, k3, z1, e2])
  cases e1 : nameB c.name
  · rw [chkT_is (show chk c = (1, -1) by unfold chk; rw [if_neg hl, if_pos (.inr e1)])]
    repeat (first | refine aops_op' rfl (by simp only [go_sem, chAV, k1, k2, k3, z1, e2, e1]; exact ⟨rfl, rfl⟩) ?_ | refine g_run ?_ | refine g_off ?_ | refine aops_call' rfl (fname) (by simp only [go_sem, chAV, k1, k2, k3, z1, e2, e1]; exact Is.rfl') (by simp only [go_sem, chAV, k1, k2, k3, z1, e2, e1]; exact ⟨rfl, rfl⟩) ?_ | refine aops_nil (d_end ?_) | refine aops_nil ?_ | refine awp_seq ?_ | refine g_text ?_ | refine g_draw Tryd.mixed ?_ | refine awp_block ?_ | refine awp_skip ?_ | (refine awp_exit ?_; simp only [thenA, blockA, ↓reduceIte, Nat.reduceEqDiff, reduceCtorEq]) | refine awp_yes' (by simp only [go_sem, chAV, k1, k2, k3, z1, e2, e1]; exact Is.rfl') ?_ | refine awp_no' (by simp only [go_sem, chAV, k1, k2, k3, z1, e2, e1]; exact Is.rfl') ?_)
    (refine awp_ret ?_; show (resRd _ _ _).run _ = some _; simp only [go_sem, chAV, k1, k2, k3, z1, e2, e1])
  have hne : ¬ (c.states = [] ∨ nameB c.name = false) := by
    rw [e1]
    simpa using e2
  have hc1 : chk c = (match firstBad (cVarAt c) c.vars.length with
    | some i => (1, 2000 + (i : Int))
    | none => match firstBad (cStAt c) c.states.length with
      | some i => (1, (i : Int))
      | none => if topB c = false then (1, -1) else match firstBad (cTrAt c) c.trans.length with
        | some i => (1, 1000 + (i : Int))
        | none => (0, -1)) := by
    unfold chk
    rw [if_neg hl, if_neg hne]
    rfl
  repeat (first | refine aops_op' rfl (by simp only [go_sem, chAV, k1, k2, k3, z1, e2, e1]; exact ⟨rfl, rfl⟩) ?_ | refine g_run ?_ | refine g_off ?_ | refine aops_call' rfl (fname) (by simp only [go_sem, chAV, k1, k2, k3, z1, e2, e1]; exact Is.rfl') (by simp only [go_sem, chAV, k1, k2, k3, z1, e2, e1]; exact ⟨rfl, rfl⟩) ?_ | refine aops_nil (d_end ?_) | refine aops_nil ?_ | refine awp_seq ?_ | refine g_text ?_ | refine g_draw Tryd.mixed ?_ | refine awp_block ?_ | refine awp_skip ?_ | (refine awp_exit ?_; simp only [thenA, blockA, ↓reduceIte, Nat.reduceEqDiff, reduceCtorEq]) | refine awp_yes' (by simp only [go_sem, chAV, k1, k2, k3, z1, e2, e1]; exact Is.rfl') ?_ | refine awp_no' (by simp only [go_sem, chAV, k1, k2, k3, z1, e2, e1]; exact Is.rfl') ?_)
  refine awp_loopH (D := Nat) (fun i vs => [(1, .loc 1 (vs 1) 0 0), (4, I i)]) (fun _ _ => [(1, ⟨5, [chAV c], 26, false⟩)]) (fun i _ _ => i ≤ c.vars.length ∧ ∀ j, j < i → cVarAt c j = true) (fun i => c.vars.length - i) 0 ?_ ?_ ?_ ?_
  · exact ⟨Nat.zero_le _, fun j hj => by omega⟩
  · (simp only [go_sem, chAV, k1, k2, k3, z1, e2, e1])
  · (simp only [go_sem, chAV])
  rintro i ws esc ⟨hi, hall⟩
  by_cases hlt : i < c.vars.length
  · obtain ⟨v, hv, _⟩ := some_at hlt
    have q1 := nlt hlt
    have q2 := wrap_succ hlt (by omega)
    have hcon := rVar_con env c (by omega) i v hv
    cases e : varB c i v
    · have q3 : IntKind.i64.wrap (2000 + (i : Int)) = 2000 + (i : Int) := wrap_in (by omega) (by omega)
      rw [chkT_is (show chk c = (1, 2000 + (i : Int)) by rw [hc1, firstBad_at hlt hall (by rw [cVarAt_is hv]; exact e)])]
      repeat (first | refine aops_op' rfl (by simp only [go_sem, chAV, q1, q2, q3, e]; exact ⟨rfl, rfl⟩) ?_ | refine g_run ?_ | refine g_off ?_ | refine aops_call' rfl (hcon) (by simp only [go_sem, chAV, q1, q2, q3, e]; exact Is.rfl') (by simp only [go_sem, chAV, q1, q2, q3, e]; exact ⟨rfl, rfl⟩) ?_ | refine aops_nil (d_end ?_) | refine aops_nil ?_ | refine awp_seq ?_ | refine g_text ?_ | refine g_draw Tryd.mixed ?_ | refine awp_block ?_ | refine awp_skip ?_ | (refine awp_exit ?_; simp only [thenA, blockA, ↓reduceIte, Nat.reduceEqDiff, reduceCtorEq]) | refine awp_yes' (by simp only [go_sem, chAV, q1, q2, q3, e]; exact Is.rfl') ?_ | refine awp_no' (by simp only [go_sem, chAV, q1, q2, q3, e]; exact Is.rfl') ?_)
      (refine awp_ret ?_; show (resRd _ _ _).run _ = some _; simp only [go_sem, chAV, q1, q2, q3, e])
    · repeat (first | refine aops_op' rfl (by simp only [go_sem, chAV, q1, q2, e]; exact ⟨rfl, rfl⟩) ?_ | refine g_run ?_ | refine g_off ?_ | refine aops_call' rfl (hcon) (by simp only [go_sem, chAV, q1, q2, e]; exact Is.rfl') (by simp only [go_sem, chAV, q1, q2, e]; exact ⟨rfl, rfl⟩) ?_ | refine aops_nil (d_end ?_) | refine aops_nil ?_ | refine awp_seq ?_ | refine g_text ?_ | refine g_draw Tryd.mixed ?_ | refine awp_block ?_ | refine awp_skip ?_ | (refine awp_exit ?_; simp only [thenA, blockA, ↓reduceIte, Nat.reduceEqDiff, reduceCtorEq]) | refine awp_yes' (by simp only [go_sem, chAV, q1, q2, e]; exact Is.rfl') ?_ | refine awp_no' (by simp only [go_sem, chAV, q1, q2, e]; exact Is.rfl') ?_)
      refine ⟨i + 1, ⟨hlt, upto_succ hall (by rw [cVarAt_is hv]; exact e)⟩, ?_, ?_, ?_⟩
      · (simp only [go_sem, chAV, q1, q2, e])
      · (simp only [go_sem, chAV])
      · omega
  have q1 : ¬ (i : Int) < (c.vars.length : Int) := by omega
  have hvn : firstBad (cVarAt c) c.vars.length = none := firstBad_none fun j hj => hall j (by omega)
  rw [hvn] at hc1
  repeat (first | refine aops_op' rfl (by simp only [go_sem, chAV, q1]; exact ⟨rfl, rfl⟩) ?_ | refine g_run ?_ | refine g_off ?_ | refine aops_nil (d_end ?_) | refine aops_nil ?_ | refine awp_seq ?_ | refine g_text ?_ | refine g_draw Tryd.mixed ?_ | refine awp_block ?_ | refine awp_skip ?_ | (refine awp_exit ?_; simp only [thenA, blockA, ↓reduceIte, Nat.reduceEqDiff, reduceCtorEq]) | refine awp_yes' (by simp only [go_sem, chAV, q1]; exact Is.rfl') ?_ | refine awp_no' (by simp only [go_sem, chAV, q1]; exact Is.rfl') ?_)
  refine awp_loopH (D := Nat) (fun i vs => [(1, .loc 1 (vs 1) 0 0), (5, I i)]) (fun _ _ => [(1, ⟨5, [chAV c], 26, false⟩)]) (fun i _ _ => i ≤ c.states.length ∧ ∀ j, j < i → cStAt c j = true) (fun i => c.states.length - i) 0 ?_ ?_ ?_ ?_
  · exact ⟨Nat.zero_le _, fun j hj => by omega⟩
  · (simp only [go_sem, chAV, q1])
  · (simp only [go_sem, chAV])
  clear ws esc hi hall q1 hlt i
  rintro i ws esc ⟨hi, hall⟩
  by_cases hlt : i < c.states.length
  · obtain ⟨s, hs, _⟩ := some_at hlt
    have q1 := nlt hlt
    have q2 := wrap_succ hlt (by omega)
    have hcon := rState_con env c (by omega) i s hs
    cases e : stateB c i s
    · rw [chkT_is (show chk c = (1, (i : Int)) by rw [hc1, firstBad_at hlt hall (by rw [cStAt_is hs]; exact e)])]
      repeat (first | refine aops_op' rfl (by simp only [go_sem, chAV, q1, q2, e]; exact ⟨rfl, rfl⟩) ?_ | refine g_run ?_ | refine g_off ?_ | refine aops_call' rfl (hcon) (by simp only [go_sem, chAV, q1, q2, e]; exact Is.rfl') (by simp only [go_sem, chAV, q1, q2, e]; exact ⟨rfl, rfl⟩) ?_ | refine aops_nil (d_end ?_) | refine aops_nil ?_ | refine awp_seq ?_ | refine g_text ?_ | refine g_draw Tryd.mixed ?_ | refine awp_block ?_ | refine awp_skip ?_ | (refine awp_exit ?_; simp only [thenA, blockA, ↓reduceIte, Nat.reduceEqDiff, reduceCtorEq]) | refine awp_yes' (by simp only [go_sem, chAV, q1, q2, e]; exact Is.rfl') ?_ | refine awp_no' (by simp only [go_sem, chAV, q1, q2, e]; exact Is.rfl') ?_)
      (refine awp_ret ?_; show (resRd _ _ _).run _ = some _; simp only [go_sem, chAV, q1, q2, e])
    · repeat (first | refine aops_op' rfl (by simp only [go_sem, chAV, q1, q2, e]; exact ⟨rfl, rfl⟩) ?_ | refine g_run ?_ | refine g_off ?_ | refine aops_call' rfl (hcon) (by simp only [go_sem, chAV, q1, q2, e]; exact Is.rfl') (by simp only [go_sem, chAV, q1, q2, e]; exact ⟨rfl, rfl⟩) ?_ | refine aops_nil (d_end ?_) | refine aops_nil ?_ | refine awp_seq ?_ | refine g_text ?_ | refine g_draw Tryd.mixed ?_ | refine awp_block ?_ | refine awp_skip ?_ | (refine awp_exit ?_; simp only [thenA, blockA, ↓reduceIte, Nat.reduceEqDiff, reduceCtorEq]) | refine awp_yes' (by simp only [go_sem, chAV, q1, q2, e]; exact Is.rfl') ?_ | refine awp_no' (by simp only [go_sem, chAV, q1, q2, e]; exact Is.rfl') ?_)
      refine ⟨i + 1, ⟨hlt, upto_succ hall (by rw [cStAt_is hs]; exact e)⟩, ?_, ?_, ?_⟩
      · (simp only [go_sem, chAV, q1, q2, e])
      · (simp only [go_sem, chAV])
      · omega
  have q1 : ¬ (i : Int) < (c.states.length : Int) := by omega
  have hsn : firstBad (cStAt c) c.states.length = none := firstBad_none fun j hj => hall j (by omega)
  rw [hsn] at hc1
  by_cases p1 : c.initial < 0
  · have ht : topB c = false := by unfold topB at_; rw [if_neg (by omega)]
    rw [chkT_is (show chk c = (1, -1) by rw [hc1, if_pos ht])]
    repeat (first | refine aops_op' rfl (by simp only [go_sem, chAV, q1, p1]; exact ⟨rfl, rfl⟩) ?_ | refine g_run ?_ | refine g_off ?_ | refine aops_nil (d_end ?_) | refine aops_nil ?_ | refine awp_seq ?_ | refine g_text ?_ | refine g_draw Tryd.mixed ?_ | refine awp_block ?_ | refine awp_skip ?_ | (refine awp_exit ?_; simp only [thenA, blockA, ↓reduceIte, Nat.reduceEqDiff, reduceCtorEq]) | refine awp_yes' (by simp only [go_sem, chAV, q1, p1]; exact Is.rfl') ?_ | refine awp_no' (by simp only [go_sem, chAV, q1, p1]; exact Is.rfl') ?_)
    (refine awp_ret ?_; show (resRd _ _ _).run _ = some _; simp only [go_sem, chAV, q1, p1])
  obtain ⟨m, hm⟩ := nat_of (show 0 ≤ c.initial by omega)
  have p1' : ¬ (m : Int) < 0 := by omega
  by_cases p2 : (c.states.length : Int) ≤ (m : Int)
  · have ht : topB c = false := by unfold topB; rw [hm, at_nat, List.getElem?_eq_none (by omega)]
    rw [chkT_is (show chk c = (1, -1) by rw [hc1, if_pos ht])]
    repeat (first | refine aops_op' rfl (by simp only [go_sem, chAV, q1, hm, p1', p2]; exact ⟨rfl, rfl⟩) ?_ | refine g_run ?_ | refine g_off ?_ | refine aops_nil (d_end ?_) | refine aops_nil ?_ | refine awp_seq ?_ | refine g_text ?_ | refine g_draw Tryd.mixed ?_ | refine awp_block ?_ | refine awp_skip ?_ | (refine awp_exit ?_; simp only [thenA, blockA, ↓reduceIte, Nat.reduceEqDiff, reduceCtorEq]) | refine awp_yes' (by simp only [go_sem, chAV, q1, hm, p1', p2]; exact Is.rfl') ?_ | refine awp_no' (by simp only [go_sem, chAV, q1, hm, p1', p2]; exact Is.rfl') ?_)
    (refine awp_ret ?_; show (resRd _ _ _).run _ = some _; simp only [go_sem, chAV, q1, hm, p1', p2])
  have p3 := nlt (show m < c.states.length by omega)
  obtain ⟨q, hq, _⟩ := some_at (show m < c.states.length by omega)
  have fnorm := rNormal_con env q
  have htop : topB c = ((q.parent == -1) && normB q) := by unfold topB; rw [hm, at_nat, hq]
  cases e3 : (q.parent == -1)
  · rw [chkT_is (show chk c = (1, -1) by rw [hc1, if_pos (by rw [htop, e3]; rfl)])]
    repeat (first | refine aops_op' rfl (by simp only [go_sem, chAV, stAV, q1, hm, p1', p2, p3, hq, e3, bne]; exact ⟨rfl, rfl⟩) ?_ | refine g_run ?_ | refine g_off ?_ | refine aops_call' rfl (fnorm) (by simp only [go_sem, chAV, stAV, q1, hm, p1', p2, p3, hq, e3, bne]; exact Is.rfl') (by simp only [go_sem, chAV, stAV, q1, hm, p1', p2, p3, hq, e3, bne]; exact ⟨rfl, rfl⟩) ?_ | refine aops_nil (d_end ?_) | refine aops_nil ?_ | refine awp_seq ?_ | refine g_text ?_ | refine g_draw Tryd.mixed ?_ | refine awp_block ?_ | refine awp_skip ?_ | (refine awp_exit ?_; simp only [thenA, blockA, ↓reduceIte, Nat.reduceEqDiff, reduceCtorEq]) | refine awp_yes' (by simp only [go_sem, chAV, stAV, q1, hm, p1', p2, p3, hq, e3, bne]; exact Is.rfl') ?_ | refine awp_no' (by simp only [go_sem, chAV, stAV, q1, hm, p1', p2, p3, hq, e3, bne]; exact Is.rfl') ?_)
    (refine awp_ret ?_; show (resRd _ _ _).run _ = some _; simp only [go_sem, chAV, stAV, q1, hm, p1', p2, p3, hq, e3, bne])
  cases e4 : normB q
  · rw [chkT_is (show chk c = (1, -1) by rw [hc1, if_pos (by rw [htop, e3, e4]; rfl)])]
    repeat (first | refine aops_op' rfl (by simp only [go_sem, chAV, stAV, q1, hm, p1', p2, p3, hq, e3, e4, bne]; exact ⟨rfl, rfl⟩) ?_ | refine g_run ?_ | refine g_off ?_ | refine aops_call' rfl (fnorm) (by simp only [go_sem, chAV, stAV, q1, hm, p1', p2, p3, hq, e3, e4, bne]; exact Is.rfl') (by simp only [go_sem, chAV, stAV, q1, hm, p1', p2, p3, hq, e3, e4, bne]; exact ⟨rfl, rfl⟩) ?_ | refine aops_nil (d_end ?_) | refine aops_nil ?_ | refine awp_seq ?_ | refine g_text ?_ | refine g_draw Tryd.mixed ?_ | refine awp_block ?_ | refine awp_skip ?_ | (refine awp_exit ?_; simp only [thenA, blockA, ↓reduceIte, Nat.reduceEqDiff, reduceCtorEq]) | refine awp_yes' (by simp only [go_sem, chAV, stAV, q1, hm, p1', p2, p3, hq, e3, e4, bne]; exact Is.rfl') ?_ | refine awp_no' (by simp only [go_sem, chAV, stAV, q1, hm, p1', p2, p3, hq, e3, e4, bne]; exact Is.rfl') ?_)
    (refine awp_ret ?_; show (resRd _ _ _).run _ = some _; simp only [go_sem, chAV, stAV, q1, hm, p1', p2, p3, hq, e3, e4, bne])
  rw [if_neg (by rw [htop, e3, e4]; simp)] at hc1
  repeat (first | refine aops_op' rfl (by simp only [go_sem, chAV, stAV, q1, hm, p1', p2, p3, hq, e3, e4, bne]; exact ⟨rfl, rfl⟩) ?_ | refine g_run ?_ | refine g_off ?_ | refine aops_call' rfl (fnorm) (by simp only [go_sem, chAV, stAV, q1, hm, p1', p2, p3, hq, e3, e4, bne]; exact Is.rfl') (by simp only [go_sem, chAV, stAV, q1, hm, p1', p2, p3, hq, e3, e4, bne]; exact ⟨rfl, rfl⟩) ?_ | refine aops_nil (d_end ?_) | refine aops_nil ?_ | refine awp_seq ?_ | refine g_text ?_ | refine g_draw Tryd.mixed ?_ | refine awp_block ?_ | refine awp_skip ?_ | (refine awp_exit ?_; simp only [thenA, blockA, ↓reduceIte, Nat.reduceEqDiff, reduceCtorEq]) | refine awp_yes' (by simp only [go_sem, chAV, stAV, q1, hm, p1', p2, p3, hq, e3, e4, bne]; exact Is.rfl') ?_ | refine awp_no' (by simp only [go_sem, chAV, stAV, q1, hm, p1', p2, p3, hq, e3, e4, bne]; exact Is.rfl') ?_)
  refine awp_loopH (D := Nat) (fun i vs => [(1, .loc 1 (vs 1) 0 0), (6, I i)]) (fun _ _ => [(1, ⟨5, [chAV c], 26, false⟩)]) (fun i _ _ => i ≤ c.trans.length ∧ ∀ j, j < i → cTrAt c j = true) (fun i => c.trans.length - i) 0 ?_ ?_ ?_ ?_
  · exact ⟨Nat.zero_le _, fun j hj => by omega⟩
  · (simp only [go_sem, chAV, hm])
  · (simp only [go_sem, chAV, hm])
  clear ws esc hi hall q1 hlt i
  rintro i ws esc ⟨hi, hall⟩
  by_cases hlt : i < c.trans.length
  · obtain ⟨t, ht, _⟩ := some_at hlt
    have q1 := nlt hlt
    have q2 := wrap_succ hlt (by omega)
    have hcon := rTran_con env c t
    cases e : tranB c t
    · have q3 : IntKind.i64.wrap (1000 + (i : Int)) = 1000 + (i : Int) := wrap_in (by omega) (by omega)
      rw [chkT_is (show chk c = (1, 1000 + (i : Int)) by rw [hc1, firstBad_at hlt hall (by rw [cTrAt_is ht]; exact e)])]
      repeat (first | refine aops_op' rfl (by simp only [go_sem, chAV, trAV, q1, q2, q3, ht, e]; exact ⟨rfl, rfl⟩) ?_ | refine g_run ?_ | refine g_off ?_ | refine aops_call' rfl (hcon) (by simp only [go_sem, chAV, trAV, q1, q2, q3, ht, e]; exact Is.rfl') (by simp only [go_sem, chAV, trAV, q1, q2, q3, ht, e]; exact ⟨rfl, rfl⟩) ?_ | refine aops_nil (d_end ?_) | refine aops_nil ?_ | refine awp_seq ?_ | refine g_text ?_ | refine g_draw Tryd.mixed ?_ | refine awp_block ?_ | refine awp_skip ?_ | (refine awp_exit ?_; simp only [thenA, blockA, ↓reduceIte, Nat.reduceEqDiff, reduceCtorEq]) | refine awp_yes' (by simp only [go_sem, chAV, trAV, q1, q2, q3, ht, e]; exact Is.rfl') ?_ | refine awp_no' (by simp only [go_sem, chAV, trAV, q1, q2, q3, ht, e]; exact Is.rfl') ?_)
      (refine awp_ret ?_; show (resRd _ _ _).run _ = some _; simp only [go_sem, chAV, trAV, q1, q2, q3, ht, e])
    · repeat (first | refine aops_op' rfl (by simp only [go_sem, chAV, trAV, q1, q2, ht, e]; exact ⟨rfl, rfl⟩) ?_ | refine g_run ?_ | refine g_off ?_ | refine aops_call' rfl (hcon) (by simp only [go_sem, chAV, trAV, q1, q2, ht, e]; exact Is.rfl') (by simp only [go_sem, chAV, trAV, q1, q2, ht, e]; exact ⟨rfl, rfl⟩) ?_ | refine aops_nil (d_end ?_) | refine aops_nil ?_ | refine awp_seq ?_ | refine g_text ?_ | refine g_draw Tryd.mixed ?_ | refine awp_block ?_ | refine awp_skip ?_ | (refine awp_exit ?_; simp only [thenA, blockA, ↓reduceIte, Nat.reduceEqDiff, reduceCtorEq]) | refine awp_yes' (by simp only [go_sem, chAV, trAV, q1, q2, ht, e]; exact Is.rfl') ?_ | refine awp_no' (by simp only [go_sem, chAV, trAV, q1, q2, ht, e]; exact Is.rfl') ?_)
      refine ⟨i + 1, ⟨hlt, upto_succ hall (by rw [cTrAt_is ht]; exact e)⟩, ?_, ?_, ?_⟩
      · (simp only [go_sem, chAV, trAV, q1, q2, ht, e])
      · (simp only [go_sem, chAV])
      · omega
  have q1 : ¬ (i : Int) < (c.trans.length : Int) := by omega
  rw [chkT_is (show chk c = (0, -1) by rw [hc1, firstBad_none fun j hj => hall j (by omega)])]
  repeat (first | refine aops_op' rfl (by simp only [go_sem, chAV, q1]; exact ⟨rfl, rfl⟩) ?_ | refine g_run ?_ | refine g_off ?_ | refine aops_nil (d_end ?_) | refine aops_nil ?_ | refine awp_seq ?_ | refine g_text ?_ | refine g_draw Tryd.mixed ?_ | refine awp_block ?_ | refine awp_skip ?_ | (refine awp_exit ?_; simp only [thenA, blockA, ↓reduceIte, Nat.reduceEqDiff, reduceCtorEq]) | refine awp_yes' (by simp only [go_sem, chAV, q1]; exact Is.rfl') ?_ | refine awp_no' (by simp only [go_sem, chAV, q1]; exact Is.rfl') ?_)
  (refine awp_ret ?_; show (resRd _ _ _).run _ = some _; simp only [go_sem, chAV, q1])
end Go.Proofs.YtaggnpieofpphaaDoor
