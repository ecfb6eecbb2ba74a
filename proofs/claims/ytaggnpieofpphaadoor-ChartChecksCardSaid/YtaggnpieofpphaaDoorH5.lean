/- Contracts of the program's checks of actions and states: by the walk without memory. -/
import Derived.Test.YtaggnpieofpphaaDoorH3
import Derived.Test.YtaggnpieofpphaaDoorH4
set_option linter.unusedSimpArgs false
namespace Go.Proofs.YtaggnpieofpphaaDoor
open Go.RowKit
set_option maxRecDepth 100000
set_option maxHeartbeats 1000000
attribute [local go_sem_proc] reduceIte reduceCtorEq Nat.reduceAdd Nat.reduceSub Nat.reduceEqDiff Nat.reduceLT Nat.reduceLeDiff Nat.reduceMul Int.reduceToNat Int.reduceBEq Int.reduceBNe Int.reduceEq Int.reduceLT Int.reduceLE
attribute [local go_sem] resRd resOne resAll HoldF HoldR Takes thenA blockA ev_move ev_assign ev_pick ev_alloc ev_box ev_build ev_buildSlice ev_load ev_store ev_binOp ev_unOp ev_convert ev_iface ev_make ev_slice ev_fieldAddr ev_field ev_indexAddr ev_index ev_extract ev_len ev_append ev_min ev_max evMin evMax gt_tmp gt_int gt_bool gt_str gt_nilS gt_nilP gt_nilI pickRd allocRd buildRd sliceRd loadRd unRd ifaceRd exRd val optRd callRd seen AV.plain adopt fzArgs Rd.run AV.asCells newBox runL Comes' Rd.row Rd.bind Out.app apps Eff.app St.renew St.setRow St.show St.put St.init upd evStore evBin eqFs eqCell evConv evSeq evLen evIndexAddr evFieldAddr evField evIndex bound evSlice evAppend evMake loadOf fillAV fillEs fzParts fz fzCell fzCells shows isConstOp splice wrs wes Value.oneCell' List.getD_cons_zero List.getD_cons_succ List.getD_nil List.length_cons List.length_nil List.map_cons List.map_nil List.nil_append List.cons_append List.all_cons List.all_nil List.getElem?_cons_zero List.getElem?_cons_succ List.set_cons_zero List.set_cons_succ List.take_succ_cons List.take_zero List.drop_succ_cons List.drop_zero List.take_nil List.drop_nil List.replicate_succ List.replicate_zero Bool.and_true Bool.true_and Bool.and_self and_self true_and and_true Nat.zero_add Nat.add_zero Option.some.injEq Nat.zero_lt_succ Bool.not_true Bool.not_false ne_eq not_true_eq_false not_false_eq_true Option.map_some Option.map_none List.toList_toArray head headF headR List.length_map Int.toNat_natCast Int.natCast_nonneg List.getElem?_map decide_true decide_false Bool.false_eq_true if_true if_false Bool.or_self Bool.or_true Bool.true_or Bool.false_or Bool.or_false Bool.and_false Bool.false_and List.flatten_cons List.flatten_nil List.append_nil nat0 or_self or_false false_or or_true true_or and_false false_and List.length_append List.isEmpty_nil bne_self_eq_false beq_self_eq_true fits_small strL_l bytesOf_map wants Int.cast_ofNat_Int gt_iff_lt ge_iff_le
attribute [local go_sem ←] List.map_drop List.map_take

theorem pCode_con (env : Env) (a1 a8 : Addr) (he : ChEnv env a1 a8) (c : ChD) (l : List OpD) : Con Tryd.prog env 68 [.agg (chAV c), opsAV l] (B (codeB l c.vars.length c.states.length)) := by
  have hx := pExprCheck_con env a1 a8 he l c.vars.length c.states.length
  unfold exprAV at hx
  refine con_of_body Tryd.func68 rfl Tryd.call68 (by rw [Tryd.ntmps68]; simp) ?_
  rw [Tryd.ntmps68, Tryd.results68]
  by_cases h0 : codeC l c.vars.length c.states.length = 0
  · rw [if_pos h0] at hx
    rw [show codeB l c.vars.length c.states.length = true by simp [codeB, h0]]
    repeat (first | refine aops_op' rfl (by simp only [go_sem, chAV]; exact ⟨rfl, rfl⟩) ?_ | refine g_run ?_ | refine g_off ?_ | refine aops_call' rfl (hx) (by simp only [go_sem, chAV]; exact Is.rfl') (by simp only [go_sem, chAV]; exact ⟨rfl, rfl⟩) ?_ | refine aops_nil (d_end ?_) | refine aops_nil ?_ | refine awp_seq ?_ | refine g_text ?_ | refine g_draw Tryd.mixed ?_ | refine awp_block ?_ | refine awp_skip ?_ | (refine awp_exit ?_; simp only [thenA, blockA, ↓reduceIte, Nat.reduceEqDiff, reduceCtorEq]) | refine awp_yes' (by simp only [go_sem, chAV]; exact Is.rfl') ?_ | refine awp_no' (by simp only [go_sem, chAV]; exact Is.rfl') ?_)
    (refine awp_ret ?_; show (resRd _ _ _).run _ = some _; simp only [go_sem, chAV])
  · rw [if_neg h0] at hx
    rw [show codeB l c.vars.length c.states.length = false by simp [codeB, h0]]
    by_cases h8 : codeC l c.vars.length c.states.length = 8
    · rw [if_pos h8] at hx
      repeat (first | refine aops_op' rfl (by simp only [go_sem, chAV]; exact ⟨rfl, rfl⟩) ?_ | refine g_run ?_ | refine g_off ?_ | refine aops_call' rfl (hx) (by simp only [go_sem, chAV]; exact Is.rfl') (by simp only [go_sem, chAV]; exact ⟨rfl, rfl⟩) ?_ | refine aops_nil (d_end ?_) | refine aops_nil ?_ | refine awp_seq ?_ | refine g_text ?_ | refine g_draw Tryd.mixed ?_ | refine awp_block ?_ | refine awp_skip ?_ | (refine awp_exit ?_; simp only [thenA, blockA, ↓reduceIte, Nat.reduceEqDiff, reduceCtorEq]) | refine awp_yes' (by simp only [go_sem, chAV]; exact Is.rfl') ?_ | refine awp_no' (by simp only [go_sem, chAV]; exact Is.rfl') ?_)
      (refine awp_ret ?_; show (resRd _ _ _).run _ = some _; simp only [go_sem, chAV])
    · rw [if_neg h8] at hx
      repeat (first | refine aops_op' rfl (by simp only [go_sem, chAV]; exact ⟨rfl, rfl⟩) ?_ | refine g_run ?_ | refine g_off ?_ | refine aops_call' rfl (hx) (by simp only [go_sem, chAV]; exact Is.rfl') (by simp only [go_sem, chAV]; exact ⟨rfl, rfl⟩) ?_ | refine aops_nil (d_end ?_) | refine aops_nil ?_ | refine awp_seq ?_ | refine g_text ?_ | refine g_draw Tryd.mixed ?_ | refine awp_block ?_ | refine awp_skip ?_ | (refine awp_exit ?_; simp only [thenA, blockA, ↓reduceIte, Nat.reduceEqDiff, reduceCtorEq]) | refine awp_yes' (by simp only [go_sem, chAV]; exact Is.rfl') ?_ | refine awp_no' (by simp only [go_sem, chAV]; exact Is.rfl') ?_)
      (refine awp_ret ?_; show (resRd _ _ _).run _ = some _; simp only [go_sem, chAV])
theorem ne_beq {a b : Int} (h : a ≠ b) : (a == b) = false := by simpa using h
theorem pAct_con (env : Env) (a1 a8 : Addr) (he : ChEnv env a1 a8) (c : ChD) (a : ActD) (ha : a.name.length ≤ 9223372036854775807) : Con Tryd.prog env 93 [.agg (chAV c), .agg (actAV a)] (B (actB c.vars.length c.states.length a)) := by
  obtain ⟨k, n, m, co⟩ := a
  have hcode := pCode_con env a1 a8 he c co
  have hname := tokName_con env m ha
  refine con_of_body Tryd.func93 rfl Tryd.call93 (by rw [Tryd.ntmps93]; simp) ?_
  rw [Tryd.ntmps93, Tryd.results93]
  by_cases hk1 : k = 1
  · subst hk1
    have hr : actB c.vars.length c.states.length ⟨1, n, m, co⟩ = (decide (0 ≤ n ∧ n < c.vars.length) && (m == []) && codeB co c.vars.length c.states.length) := rfl
    by_cases h1 : 0 ≤ n
    · by_cases h2 : n < (c.vars.length : Int)
      · cases h3 : (m == [])
        · rw [show actB c.vars.length c.states.length ⟨1, n, m, co⟩ = false by rw [hr, h3]; simp]
          repeat (first | refine aops_op' rfl (by simp only [go_sem, chAV, actAV, h1, h2, h3]; exact ⟨rfl, rfl⟩) ?_ | refine g_run ?_ | refine g_off ?_ | refine aops_call' rfl (hcode) (by simp only [go_sem, chAV, actAV, h1, h2, h3]; exact Is.rfl') (by simp only [go_sem, chAV, actAV, h1, h2, h3]; exact ⟨rfl, rfl⟩) ?_ | refine aops_nil (d_end ?_) | refine aops_nil ?_ | refine awp_seq ?_ | refine g_text ?_ | refine g_draw Tryd.mixed ?_ | refine awp_block ?_ | refine awp_skip ?_ | (refine awp_exit ?_; simp only [thenA, blockA, ↓reduceIte, Nat.reduceEqDiff, reduceCtorEq]) | refine awp_yes' (by simp only [go_sem, chAV, actAV, h1, h2, h3]; exact Is.rfl') ?_ | refine awp_no' (by simp only [go_sem, chAV, actAV, h1, h2, h3]; exact Is.rfl') ?_)
          (refine awp_ret ?_; show (resRd _ _ _).run _ = some _; simp only [go_sem, chAV, actAV, h1, h2, h3])
        · rw [show actB c.vars.length c.states.length ⟨1, n, m, co⟩ = codeB co c.vars.length c.states.length by rw [hr, h3]; simp [h1, h2]]
          repeat (first | refine aops_op' rfl (by simp only [go_sem, chAV, actAV, h1, h2, h3]; exact ⟨rfl, rfl⟩) ?_ | refine g_run ?_ | refine g_off ?_ | refine aops_call' rfl (hcode) (by simp only [go_sem, chAV, actAV, h1, h2, h3]; exact Is.rfl') (by simp only [go_sem, chAV, actAV, h1, h2, h3]; exact ⟨rfl, rfl⟩) ?_ | refine aops_nil (d_end ?_) | refine aops_nil ?_ | refine awp_seq ?_ | refine g_text ?_ | refine g_draw Tryd.mixed ?_ | refine awp_block ?_ | refine awp_skip ?_ | (refine awp_exit ?_; simp only [thenA, blockA, ↓reduceIte, Nat.reduceEqDiff, reduceCtorEq]) | refine awp_yes' (by simp only [go_sem, chAV, actAV, h1, h2, h3]; exact Is.rfl') ?_ | refine awp_no' (by simp only [go_sem, chAV, actAV, h1, h2, h3]; exact Is.rfl') ?_)
          (refine awp_ret ?_; show (resRd _ _ _).run _ = some _; simp only [go_sem, chAV, actAV, h1, h2, h3])
      · rw [show actB c.vars.length c.states.length ⟨1, n, m, co⟩ = false by rw [hr]; simp [h2]]
        repeat (first | refine aops_op' rfl (by simp only [go_sem, chAV, actAV, h1, h2]; exact ⟨rfl, rfl⟩) ?_ | refine g_run ?_ | refine g_off ?_ | refine aops_call' rfl (hcode) (by simp only [go_sem, chAV, actAV, h1, h2]; exact Is.rfl') (by simp only [go_sem, chAV, actAV, h1, h2]; exact ⟨rfl, rfl⟩) ?_ | refine aops_nil (d_end ?_) | refine aops_nil ?_ | refine awp_seq ?_ | refine g_text ?_ | refine g_draw Tryd.mixed ?_ | refine awp_block ?_ | refine awp_skip ?_ | (refine awp_exit ?_; simp only [thenA, blockA, ↓reduceIte, Nat.reduceEqDiff, reduceCtorEq]) | refine awp_yes' (by simp only [go_sem, chAV, actAV, h1, h2]; exact Is.rfl') ?_ | refine awp_no' (by simp only [go_sem, chAV, actAV, h1, h2]; exact Is.rfl') ?_)
        (refine awp_ret ?_; show (resRd _ _ _).run _ = some _; simp only [go_sem, chAV, actAV, h1, h2])
    · rw [show actB c.vars.length c.states.length ⟨1, n, m, co⟩ = false by rw [hr]; simp [h1]]
      repeat (first | refine aops_op' rfl (by simp only [go_sem, chAV, actAV, h1]; exact ⟨rfl, rfl⟩) ?_ | refine g_run ?_ | refine g_off ?_ | refine aops_call' rfl (hcode) (by simp only [go_sem, chAV, actAV, h1]; exact Is.rfl') (by simp only [go_sem, chAV, actAV, h1]; exact ⟨rfl, rfl⟩) ?_ | refine aops_nil (d_end ?_) | refine aops_nil ?_ | refine awp_seq ?_ | refine g_text ?_ | refine g_draw Tryd.mixed ?_ | refine awp_block ?_ | refine awp_skip ?_ | (refine awp_exit ?_; simp only [thenA, blockA, ↓reduceIte, Nat.reduceEqDiff, reduceCtorEq]) | refine awp_yes' (by simp only [go_sem, chAV, actAV, h1]; exact Is.rfl') ?_ | refine awp_no' (by simp only [go_sem, chAV, actAV, h1]; exact Is.rfl') ?_)
      (refine awp_ret ?_; show (resRd _ _ _).run _ = some _; simp only [go_sem, chAV, actAV, h1])
  by_cases hk24 : k = 2 ∨ k = 4
  · have hr : actB c.vars.length c.states.length ⟨k, n, m, co⟩ = ((n == 0) && nameB m && codeB co c.vars.length c.states.length) := by unfold actB; rw [if_neg hk1, if_pos hk24]
    rw [hr]
    rcases hk24 with rfl | rfl
    · cases h1 : (n == 0)
      · repeat (first | refine aops_op' rfl (by simp only [go_sem, chAV, actAV, h1]; exact ⟨rfl, rfl⟩) ?_ | refine g_run ?_ | refine g_off ?_ | refine aops_call' rfl (hcode) (by simp only [go_sem, chAV, actAV, h1]; exact Is.rfl') (by simp only [go_sem, chAV, actAV, h1]; exact ⟨rfl, rfl⟩) ?_ | refine aops_call' rfl (hname) (by simp only [go_sem, chAV, actAV, h1]; exact Is.rfl') (by simp only [go_sem, chAV, actAV, h1]; exact ⟨rfl, rfl⟩) ?_ | refine aops_nil (d_end ?_) | refine aops_nil ?_ | refine awp_seq ?_ | refine g_text ?_ | refine g_draw Tryd.mixed ?_ | refine awp_block ?_ | refine awp_skip ?_ | (refine awp_exit ?_; simp only [thenA, blockA, ↓reduceIte, Nat.reduceEqDiff, reduceCtorEq]) | refine awp_yes' (by simp only [go_sem, chAV, actAV, h1]; exact Is.rfl') ?_ | refine awp_no' (by simp only [go_sem, chAV, actAV, h1]; exact Is.rfl') ?_)
        (refine awp_ret ?_; show (resRd _ _ _).run _ = some _; simp only [go_sem, chAV, actAV, h1])
      · cases h2 : nameB m
        · repeat (first | refine aops_op' rfl (by simp only [go_sem, chAV, actAV, h1, h2]; exact ⟨rfl, rfl⟩) ?_ | refine g_run ?_ | refine g_off ?_ | refine aops_call' rfl (hcode) (by simp only [go_sem, chAV, actAV, h1, h2]; exact Is.rfl') (by simp only [go_sem, chAV, actAV, h1, h2]; exact ⟨rfl, rfl⟩) ?_ | refine aops_call' rfl (hname) (by simp only [go_sem, chAV, actAV, h1, h2]; exact Is.rfl') (by simp only [go_sem, chAV, actAV, h1, h2]; exact ⟨rfl, rfl⟩) ?_ | refine aops_nil (d_end ?_) | refine aops_nil ?_ | refine awp_seq ?_ | refine g_text ?_ | refine g_draw Tryd.mixed ?_ | refine awp_block ?_ | refine awp_skip ?_ | (refine awp_exit ?_; simp only [thenA, blockA, ↓reduceIte, Nat.reduceEqDiff, reduceCtorEq]) | refine awp_yes' (by simp only [go_sem, chAV, actAV, h1, h2]; exact Is.rfl') ?_ | refine awp_no' (by simp only [go_sem, chAV, actAV, h1, h2]; exact Is.rfl') ?_)
          (refine awp_ret ?_; show (resRd _ _ _).run _ = some _; simp only [go_sem, chAV, actAV, h1, h2])
        · repeat (first | refine aops_op' rfl (by simp only [go_sem, chAV, actAV, h1, h2]; exact ⟨rfl, rfl⟩) ?_ | refine g_run ?_ | refine g_off ?_ | refine aops_call' rfl (hcode) (by simp only [go_sem, chAV, actAV, h1, h2]; exact Is.rfl') (by simp only [go_sem, chAV, actAV, h1, h2]; exact ⟨rfl, rfl⟩) ?_ | refine aops_call' rfl (hname) (by simp only [go_sem, chAV, actAV, h1, h2]; exact Is.rfl') (by simp only [go_sem, chAV, actAV, h1, h2]; exact ⟨rfl, rfl⟩) ?_ | refine aops_nil (d_end ?_) | refine aops_nil ?_ | refine awp_seq ?_ | refine g_text ?_ | refine g_draw Tryd.mixed ?_ | refine awp_block ?_ | refine awp_skip ?_ | (refine awp_exit ?_; simp only [thenA, blockA, ↓reduceIte, Nat.reduceEqDiff, reduceCtorEq]) | refine awp_yes' (by simp only [go_sem, chAV, actAV, h1, h2]; exact Is.rfl') ?_ | refine awp_no' (by simp only [go_sem, chAV, actAV, h1, h2]; exact Is.rfl') ?_)
          (refine awp_ret ?_; show (resRd _ _ _).run _ = some _; simp only [go_sem, chAV, actAV, h1, h2])
    · cases h1 : (n == 0)
      · repeat (first | refine aops_op' rfl (by simp only [go_sem, chAV, actAV, h1]; exact ⟨rfl, rfl⟩) ?_ | refine g_run ?_ | refine g_off ?_ | refine aops_call' rfl (hcode) (by simp only [go_sem, chAV, actAV, h1]; exact Is.rfl') (by simp only [go_sem, chAV, actAV, h1]; exact ⟨rfl, rfl⟩) ?_ | refine aops_call' rfl (hname) (by simp only [go_sem, chAV, actAV, h1]; exact Is.rfl') (by simp only [go_sem, chAV, actAV, h1]; exact ⟨rfl, rfl⟩) ?_ | refine aops_nil (d_end ?_) | refine aops_nil ?_ | refine awp_seq ?_ | refine g_text ?_ | refine g_draw Tryd.mixed ?_ | refine awp_block ?_ | refine awp_skip ?_ | (refine awp_exit ?_; simp only [thenA, blockA, ↓reduceIte, Nat.reduceEqDiff, reduceCtorEq]) | refine awp_yes' (by simp only [go_sem, chAV, actAV, h1]; exact Is.rfl') ?_ | refine awp_no' (by simp only [go_sem, chAV, actAV, h1]; exact Is.rfl') ?_)
        (refine awp_ret ?_; show (resRd _ _ _).run _ = some _; simp only [go_sem, chAV, actAV, h1])
      · cases h2 : nameB m
        · repeat (first | refine aops_op' rfl (by simp only [go_sem, chAV, actAV, h1, h2]; exact ⟨rfl, rfl⟩) ?_ | refine g_run ?_ | refine g_off ?_ | refine aops_call' rfl (hcode) (by simp only [go_sem, chAV, actAV, h1, h2]; exact Is.rfl') (by simp only [go_sem, chAV, actAV, h1, h2]; exact ⟨rfl, rfl⟩) ?_ | refine aops_call' rfl (hname) (by simp only [go_sem, chAV, actAV, h1, h2]; exact Is.rfl') (by simp only [go_sem, chAV, actAV, h1, h2]; exact ⟨rfl, rfl⟩) ?_ | refine aops_nil (d_end ?_) | refine aops_nil ?_ | refine awp_seq ?_ | refine g_text ?_ | refine g_draw Tryd.mixed ?_ | refine awp_block ?_ | refine awp_skip ?_ | (refine awp_exit ?_; simp only [thenA, blockA, ↓reduceIte, Nat.reduceEqDiff, reduceCtorEq]) | refine awp_yes' (by simp only [go_sem, chAV, actAV, h1, h2]; exact Is.rfl') ?_ | refine awp_no' (by simp only [go_sem, chAV, actAV, h1, h2]; exact Is.rfl') ?_)
          (refine awp_ret ?_; show (resRd _ _ _).run _ = some _; simp only [go_sem, chAV, actAV, h1, h2])
        · repeat (first | refine aops_op' rfl (by simp only [go_sem, chAV, actAV, h1, h2]; exact ⟨rfl, rfl⟩) ?_ | refine g_run ?_ | refine g_off ?_ | refine aops_call' rfl (hcode) (by simp only [go_sem, chAV, actAV, h1, h2]; exact Is.rfl') (by simp only [go_sem, chAV, actAV, h1, h2]; exact ⟨rfl, rfl⟩) ?_ | refine aops_call' rfl (hname) (by simp only [go_sem, chAV, actAV, h1, h2]; exact Is.rfl') (by simp only [go_sem, chAV, actAV, h1, h2]; exact ⟨rfl, rfl⟩) ?_ | refine aops_nil (d_end ?_) | refine aops_nil ?_ | refine awp_seq ?_ | refine g_text ?_ | refine g_draw Tryd.mixed ?_ | refine awp_block ?_ | refine awp_skip ?_ | (refine awp_exit ?_; simp only [thenA, blockA, ↓reduceIte, Nat.reduceEqDiff, reduceCtorEq]) | refine awp_yes' (by simp only [go_sem, chAV, actAV, h1, h2]; exact Is.rfl') ?_ | refine awp_no' (by simp only [go_sem, chAV, actAV, h1, h2]; exact Is.rfl') ?_)
          (refine awp_ret ?_; show (resRd _ _ _).run _ = some _; simp only [go_sem, chAV, actAV, h1, h2])
  by_cases hk3 : k = 3
  · subst hk3
    have hr : actB c.vars.length c.states.length ⟨3, n, m, co⟩ = ((n == 0) && (m == []) && codeB co c.vars.length c.states.length) := rfl
    rw [hr]
    cases h1 : (n == 0)
    · repeat (first | refine aops_op' rfl (by simp only [go_sem, chAV, actAV, h1]; exact ⟨rfl, rfl⟩) ?_ | refine g_run ?_ | refine g_off ?_ | refine aops_call' rfl (hcode) (by simp only [go_sem, chAV, actAV, h1]; exact Is.rfl') (by simp only [go_sem, chAV, actAV, h1]; exact ⟨rfl, rfl⟩) ?_ | refine aops_call' rfl (hname) (by simp only [go_sem, chAV, actAV, h1]; exact Is.rfl') (by simp only [go_sem, chAV, actAV, h1]; exact ⟨rfl, rfl⟩) ?_ | refine aops_nil (d_end ?_) | refine aops_nil ?_ | refine awp_seq ?_ | refine g_text ?_ | refine g_draw Tryd.mixed ?_ | refine awp_block ?_ | refine awp_skip ?_ | (refine awp_exit ?_; simp only [thenA, blockA, ↓reduceIte, Nat.reduceEqDiff, reduceCtorEq]) | refine awp_yes' (by simp only [go_sem, chAV, actAV, h1]; exact Is.rfl') ?_ | refine awp_no' (by simp only [go_sem, chAV, actAV, h1]; exact Is.rfl') ?_)
      (refine awp_ret ?_; show (resRd _ _ _).run _ = some _; simp only [go_sem, chAV, actAV, h1])
    · cases h2 : (m == [])
      · repeat (first | refine aops_op' rfl (by simp only [go_sem, chAV, actAV, h1, h2]; exact ⟨rfl, rfl⟩) ?_ | refine g_run ?_ | refine g_off ?_ | refine aops_call' rfl (hcode) (by simp only [go_sem, chAV, actAV, h1, h2]; exact Is.rfl') (by simp only [go_sem, chAV, actAV, h1, h2]; exact ⟨rfl, rfl⟩) ?_ | refine aops_call' rfl (hname) (by simp only [go_sem, chAV, actAV, h1, h2]; exact Is.rfl') (by simp only [go_sem, chAV, actAV, h1, h2]; exact ⟨rfl, rfl⟩) ?_ | refine aops_nil (d_end ?_) | refine aops_nil ?_ | refine awp_seq ?_ | refine g_text ?_ | refine g_draw Tryd.mixed ?_ | refine awp_block ?_ | refine awp_skip ?_ | (refine awp_exit ?_; simp only [thenA, blockA, ↓reduceIte, Nat.reduceEqDiff, reduceCtorEq]) | refine awp_yes' (by simp only [go_sem, chAV, actAV, h1, h2]; exact Is.rfl') ?_ | refine awp_no' (by simp only [go_sem, chAV, actAV, h1, h2]; exact Is.rfl') ?_)
        (refine awp_ret ?_; show (resRd _ _ _).run _ = some _; simp only [go_sem, chAV, actAV, h1, h2])
      · repeat (first | refine aops_op' rfl (by simp only [go_sem, chAV, actAV, h1, h2]; exact ⟨rfl, rfl⟩) ?_ | refine g_run ?_ | refine g_off ?_ | refine aops_call' rfl (hcode) (by simp only [go_sem, chAV, actAV, h1, h2]; exact Is.rfl') (by simp only [go_sem, chAV, actAV, h1, h2]; exact ⟨rfl, rfl⟩) ?_ | refine aops_call' rfl (hname) (by simp only [go_sem, chAV, actAV, h1, h2]; exact Is.rfl') (by simp only [go_sem, chAV, actAV, h1, h2]; exact ⟨rfl, rfl⟩) ?_ | refine aops_nil (d_end ?_) | refine aops_nil ?_ | refine awp_seq ?_ | refine g_text ?_ | refine g_draw Tryd.mixed ?_ | refine awp_block ?_ | refine awp_skip ?_ | (refine awp_exit ?_; simp only [thenA, blockA, ↓reduceIte, Nat.reduceEqDiff, reduceCtorEq]) | refine awp_yes' (by simp only [go_sem, chAV, actAV, h1, h2]; exact Is.rfl') ?_ | refine awp_no' (by simp only [go_sem, chAV, actAV, h1, h2]; exact Is.rfl') ?_)
        (refine awp_ret ?_; show (resRd _ _ _).run _ = some _; simp only [go_sem, chAV, actAV, h1, h2])
  by_cases hk5 : k = 5
  · subst hk5
    have hr : actB c.vars.length c.states.length ⟨5, n, m, co⟩ = ((n == 0) && nameB m && (co == [])) := rfl
    rw [hr]
    have h3 : ((co.length : Int) == 0) = (co == []) := by
      rw [Bool.eq_iff_iff]
      simp
    cases h1 : (n == 0)
    · repeat (first | refine aops_op' rfl (by simp only [go_sem, chAV, actAV, h1]; exact ⟨rfl, rfl⟩) ?_ | refine g_run ?_ | refine g_off ?_ | refine aops_call' rfl (hcode) (by simp only [go_sem, chAV, actAV, h1]; exact Is.rfl') (by simp only [go_sem, chAV, actAV, h1]; exact ⟨rfl, rfl⟩) ?_ | refine aops_call' rfl (hname) (by simp only [go_sem, chAV, actAV, h1]; exact Is.rfl') (by simp only [go_sem, chAV, actAV, h1]; exact ⟨rfl, rfl⟩) ?_ | refine aops_nil (d_end ?_) | refine aops_nil ?_ | refine awp_seq ?_ | refine g_text ?_ | refine g_draw Tryd.mixed ?_ | refine awp_block ?_ | refine awp_skip ?_ | (refine awp_exit ?_; simp only [thenA, blockA, ↓reduceIte, Nat.reduceEqDiff, reduceCtorEq]) | refine awp_yes' (by simp only [go_sem, chAV, actAV, h1]; exact Is.rfl') ?_ | refine awp_no' (by simp only [go_sem, chAV, actAV, h1]; exact Is.rfl') ?_)
      (refine awp_ret ?_; show (resRd _ _ _).run _ = some _; simp only [go_sem, chAV, actAV, h1])
    · cases h2 : nameB m
      · repeat (first | refine aops_op' rfl (by simp only [go_sem, chAV, actAV, h1, h2]; exact ⟨rfl, rfl⟩) ?_ | refine g_run ?_ | refine g_off ?_ | refine aops_call' rfl (hcode) (by simp only [go_sem, chAV, actAV, h1, h2]; exact Is.rfl') (by simp only [go_sem, chAV, actAV, h1, h2]; exact ⟨rfl, rfl⟩) ?_ | refine aops_call' rfl (hname) (by simp only [go_sem, chAV, actAV, h1, h2]; exact Is.rfl') (by simp only [go_sem, chAV, actAV, h1, h2]; exact ⟨rfl, rfl⟩) ?_ | refine aops_nil (d_end ?_) | refine aops_nil ?_ | refine awp_seq ?_ | refine g_text ?_ | refine g_draw Tryd.mixed ?_ | refine awp_block ?_ | refine awp_skip ?_ | (refine awp_exit ?_; simp only [thenA, blockA, ↓reduceIte, Nat.reduceEqDiff, reduceCtorEq]) | refine awp_yes' (by simp only [go_sem, chAV, actAV, h1, h2]; exact Is.rfl') ?_ | refine awp_no' (by simp only [go_sem, chAV, actAV, h1, h2]; exact Is.rfl') ?_)
        (refine awp_ret ?_; show (resRd _ _ _).run _ = some _; simp only [go_sem, chAV, actAV, h1, h2])
      · repeat (first | refine aops_op' rfl (by simp only [go_sem, chAV, actAV, h1, h2, h3]; exact ⟨rfl, rfl⟩) ?_ | refine g_run ?_ | refine g_off ?_ | refine aops_call' rfl (hcode) (by simp only [go_sem, chAV, actAV, h1, h2, h3]; exact Is.rfl') (by simp only [go_sem, chAV, actAV, h1, h2, h3]; exact ⟨rfl, rfl⟩) ?_ | refine aops_call' rfl (hname) (by simp only [go_sem, chAV, actAV, h1, h2, h3]; exact Is.rfl') (by simp only [go_sem, chAV, actAV, h1, h2, h3]; exact ⟨rfl, rfl⟩) ?_ | refine aops_nil (d_end ?_) | refine aops_nil ?_ | refine awp_seq ?_ | refine g_text ?_ | refine g_draw Tryd.mixed ?_ | refine awp_block ?_ | refine awp_skip ?_ | (refine awp_exit ?_; simp only [thenA, blockA, ↓reduceIte, Nat.reduceEqDiff, reduceCtorEq]) | refine awp_yes' (by simp only [go_sem, chAV, actAV, h1, h2, h3]; exact Is.rfl') ?_ | refine awp_no' (by simp only [go_sem, chAV, actAV, h1, h2, h3]; exact Is.rfl') ?_)
        (refine awp_ret ?_; show (resRd _ _ _).run _ = some _; simp only [go_sem, chAV, actAV, h1, h2, h3])
  have hr : actB c.vars.length c.states.length ⟨k, n, m, co⟩ = false := by unfold actB; rw [if_neg hk1, if_neg hk24, if_neg hk3, if_neg hk5]
  have b1 := ne_beq hk1
  have b2 := ne_beq (fun h => hk24 (.inl h))
  have b4 := ne_beq (fun h => hk24 (.inr h))
  have b3 := ne_beq hk3
  have b5 := ne_beq hk5
  rw [hr]
  repeat (first | refine aops_op' rfl (by simp only [go_sem, chAV, actAV, b1, b2, b3, b4, b5]; exact ⟨rfl, rfl⟩) ?_ | refine g_run ?_ | refine g_off ?_ | refine aops_nil (d_end ?_) | refine aops_nil ?_ | refine awp_seq ?_ | refine g_text ?_ | refine g_draw Tryd.mixed ?_ | refine awp_block ?_ | refine awp_skip ?_ | (refine awp_exit ?_; simp only [thenA, blockA, ↓reduceIte, Nat.reduceEqDiff, reduceCtorEq]) | refine awp_yes' (by simp only [go_sem, chAV, actAV, b1, b2, b3, b4, b5]; exact Is.rfl') ?_ | refine awp_no' (by simp only [go_sem, chAV, actAV, b1, b2, b3, b4, b5]; exact Is.rfl') ?_)
  (refine awp_ret ?_; show (resRd _ _ _).run _ = some _; simp only [go_sem, chAV, actAV, b1, b2, b3, b4, b5])
theorem all_take_step {α : Type} {l : List α} {p : α → Bool} {i : Nat} {x : α} (h : (l.take i).all p = true) (hx : l[i]? = some x) (hp : p x = true) : (l.take (i + 1)).all p = true := by
  obtain ⟨h1, h2⟩ := List.getElem?_eq_some_iff.1 hx
  rw [List.take_succ_eq_append_getElem h1, List.all_append, h, h2]
  simp [hp]
theorem all_not {α : Type} {l : List α} {p : α → Bool} {i : Nat} {x : α} (hx : l[i]? = some x) (hp : p x = false) : l.all p = false := by
  rw [Bool.eq_false_iff]
  intro h
  rw [List.all_eq_true] at h
  rw [h _ (List.mem_of_getElem? hx)] at hp
  cases hp
theorem all_end {α : Type} {l : List α} {p : α → Bool} {i : Nat} (h : (l.take i).all p = true) (hi : l.length ≤ i) : l.all p = true := by
  rwa [List.take_of_length_le hi] at h
theorem pActs_con (env : Env) (a1 a8 : Addr) (he : ChEnv env a1 a8) (c : ChD) (l : List ActD) (hl : l.length ≤ 9223372036854775807) (ha : ∀ a ∈ l, a.name.length ≤ 9223372036854775807) : Con Tryd.prog env 67 [.agg (chAV c), actsAV l] (B (actsB c.vars.length c.states.length l)) := by
  refine con_of_body Tryd.func67 rfl Tryd.call67 (by rw [Tryd.ntmps67]; simp) ?_
  rw [Tryd.ntmps67, Tryd.results67]
  repeat (first | refine aops_op' rfl (by simp only [go_sem, chAV]; exact ⟨rfl, rfl⟩) ?_ | refine g_run ?_ | refine g_off ?_ | refine aops_nil (d_end ?_) | refine aops_nil ?_ | refine awp_seq ?_ | refine g_text ?_ | refine g_draw Tryd.mixed ?_ | refine awp_block ?_ | refine awp_skip ?_ | (refine awp_exit ?_; simp only [thenA, blockA, ↓reduceIte, Nat.reduceEqDiff, reduceCtorEq]) | refine awp_yes' (by simp only [go_sem, chAV]; exact Is.rfl') ?_ | refine awp_no' (by simp only [go_sem, chAV]; exact Is.rfl') ?_)
  refine awp_loopH (D := Nat) (fun k vs => [(1, actsAV l), (2, .loc 2 (vs 2) 0 0), (7, actsAV l), (8, I l.length), (9, I k)]) (fun _ _ => [(2, ⟨5, [chAV c], 26, false⟩)]) (fun k _ _ => k ≤ l.length ∧ (l.take k).all (actB c.vars.length c.states.length) = true) (fun k => l.length - k) 0 ?_ ?_ ?_ ?_
  · exact ⟨Nat.zero_le _, rfl⟩
  · (simp only [go_sem, chAV])
  · (simp only [go_sem, chAV])
  rintro k ws esc ⟨hk, hall⟩
  by_cases hlt : k < l.length
  · obtain ⟨a, hx, hm⟩ := some_at hlt
    have k1 := nlt hlt
    have k2 := wrap_succ hlt hl
    have hact := pAct_con env a1 a8 he c a (ha a hm)
    cases h1 : actB c.vars.length c.states.length a with
    | true =>
      repeat (first | refine aops_op' rfl (by simp only [go_sem, chAV, k1, k2, hx, actAV, h1]; exact ⟨rfl, rfl⟩) ?_ | refine g_run ?_ | refine g_off ?_ | refine aops_call' rfl (hact) (by simp only [go_sem, chAV, k1, k2, hx, actAV, h1]; exact Is.rfl') (by simp only [go_sem, chAV, k1, k2, hx, actAV, h1]; exact ⟨rfl, rfl⟩) ?_ | refine aops_nil (d_end ?_) | refine aops_nil ?_ | refine awp_seq ?_ | refine g_text ?_ | refine g_draw Tryd.mixed ?_ | refine awp_block ?_ | refine awp_skip ?_ | (refine awp_exit ?_; simp only [thenA, blockA, ↓reduceIte, Nat.reduceEqDiff, reduceCtorEq]) | refine awp_yes' (by simp only [go_sem, chAV, k1, k2, hx, actAV, h1]; exact Is.rfl') ?_ | refine awp_no' (by simp only [go_sem, chAV, k1, k2, hx, actAV, h1]; exact Is.rfl') ?_)
      refine ⟨k + 1, ⟨hlt, all_take_step hall hx h1⟩, ?_, ?_, ?_⟩
      · (simp only [go_sem, chAV, k1, k2, hx, actAV, h1])
      · (simp only [go_sem, chAV, k1, k2, hx, actAV, h1])
      · omega
    | false =>
      rw [show actsB c.vars.length c.states.length l = false by unfold actsB; rw [all_not hx h1]; simp]
      repeat (first | refine aops_op' rfl (by simp only [go_sem, chAV, k1, k2, hx, actAV, h1]; exact ⟨rfl, rfl⟩) ?_ | refine g_run ?_ | refine g_off ?_ | refine aops_call' rfl (hact) (by simp only [go_sem, chAV, k1, k2, hx, actAV, h1]; exact Is.rfl') (by simp only [go_sem, chAV, k1, k2, hx, actAV, h1]; exact ⟨rfl, rfl⟩) ?_ | refine aops_nil (d_end ?_) | refine aops_nil ?_ | refine awp_seq ?_ | refine g_text ?_ | refine g_draw Tryd.mixed ?_ | refine awp_block ?_ | refine awp_skip ?_ | (refine awp_exit ?_; simp only [thenA, blockA, ↓reduceIte, Nat.reduceEqDiff, reduceCtorEq]) | refine awp_yes' (by simp only [go_sem, chAV, k1, k2, hx, actAV, h1]; exact Is.rfl') ?_ | refine awp_no' (by simp only [go_sem, chAV, k1, k2, hx, actAV, h1]; exact Is.rfl') ?_)
      (refine awp_ret ?_; show (resRd _ _ _).run _ = some _; simp only [go_sem, chAV, k1, k2, hx, actAV, h1])
  · have k1 : ¬ (k : Int) < (l.length : Int) := by omega
    have h3 : decide ((l.length : Int) ≤ 32) = decide (l.length ≤ 32) := by rw [Bool.eq_iff_iff]; simp; omega
    rw [show actsB c.vars.length c.states.length l = decide (l.length ≤ 32) by unfold actsB; rw [all_end hall (by omega)]; simp]
    repeat (first | refine aops_op' rfl (by simp only [go_sem, chAV, k1]; exact ⟨rfl, rfl⟩) ?_ | refine g_run ?_ | refine g_off ?_ | refine aops_nil (d_end ?_) | refine aops_nil ?_ | refine awp_seq ?_ | refine g_text ?_ | refine g_draw Tryd.mixed ?_ | refine awp_block ?_ | refine awp_skip ?_ | (refine awp_exit ?_; simp only [thenA, blockA, ↓reduceIte, Nat.reduceEqDiff, reduceCtorEq]) | refine awp_yes' (by simp only [go_sem, chAV, k1]; exact Is.rfl') ?_ | refine awp_no' (by simp only [go_sem, chAV, k1]; exact Is.rfl') ?_)
    (refine awp_ret ?_; show (resRd _ _ _).run _ = some _; simp only [go_sem, chAV, k1])
    exact congrArg B h3
end Go.Proofs.YtaggnpieofpphaaDoor
