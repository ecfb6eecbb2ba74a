/- The laws of layer 24: light, small, awake. -/
import Derived.Test.YtaggnpieofpphaaDoorHB
import Derived.Test.YtaggnpieofpphaaDoorHC
import Derived.Test.YtaggnpieofpphaaDoorH8
import Derived.Test.YtaggnpieofpphaaDoorE3
set_option linter.unusedSimpArgs false
namespace Go.Proofs.YtaggnpieofpphaaDoor
open Go.RowKit
set_option maxRecDepth 100000
set_option maxHeartbeats 8000000
attribute [local go_sem_proc] reduceIte reduceCtorEq Nat.reduceAdd Nat.reduceSub Nat.reduceEqDiff Nat.reduceLT Nat.reduceLeDiff Nat.reduceMul Int.reduceToNat Int.reduceBEq Int.reduceBNe Int.reduceEq Int.reduceLT Int.reduceLE
attribute [local go_sem] resRd resOne resAll HoldF HoldR Takes thenA blockA ev_move ev_assign ev_pick ev_alloc ev_box ev_build ev_buildSlice ev_load ev_store ev_binOp ev_unOp ev_convert ev_iface ev_make ev_slice ev_fieldAddr ev_field ev_indexAddr ev_index ev_extract ev_len ev_append ev_min ev_max evMin evMax gt_tmp gt_int gt_bool gt_str gt_nilS gt_nilP gt_nilI pickRd allocRd buildRd sliceRd loadRd unRd ifaceRd exRd val optRd callRd seen AV.plain adopt fzArgs Rd.run AV.asCells newBox runL Comes' Rd.row Rd.bind Out.app apps Eff.app St.renew St.setRow St.show St.put St.init upd evStore evBin eqFs eqCell evConv evSeq evLen evIndexAddr evFieldAddr evField evIndex bound evSlice evAppend evMake loadOf fillAV fillEs fzParts fz fzCell fzCells shows isConstOp splice wrs wes Value.oneCell' List.getD_cons_zero List.getD_cons_succ List.getD_nil List.length_cons List.length_nil List.map_cons List.map_nil List.nil_append List.cons_append List.all_cons List.all_nil List.getElem?_cons_zero List.getElem?_cons_succ List.set_cons_zero List.set_cons_succ List.take_succ_cons List.take_zero List.drop_succ_cons List.drop_zero List.take_nil List.drop_nil List.replicate_succ List.replicate_zero Bool.and_true Bool.true_and Bool.and_self and_self true_and and_true Nat.zero_add Nat.add_zero Option.some.injEq Nat.zero_lt_succ Bool.not_true Bool.not_false ne_eq not_true_eq_false not_false_eq_true Option.map_some Option.map_none List.toList_toArray head headF headR List.length_map Int.toNat_natCast Int.natCast_nonneg List.getElem?_map decide_true decide_false Bool.false_eq_true if_true if_false Bool.or_self Bool.or_true Bool.true_or Bool.false_or Bool.or_false Bool.and_false Bool.false_and List.flatten_cons List.flatten_nil List.append_nil nat0 or_self or_false false_or or_true true_or and_false false_and List.length_append List.isEmpty_nil bne_self_eq_false beq_self_eq_true fits_small strL_l bytesOf_map wants Int.cast_ofNat_Int gt_iff_lt ge_iff_le
attribute [local go_sem ←] List.map_drop List.map_take

def lightStB (s : StD) : Bool := decide (s.inn.length ≤ 50) && decide (s.out.length ≤ 50)
def lightCB (c : ChD) : Bool := decide (c.states.length ≤ 60) && decide (c.trans.length ≤ 90) && decide (c.vars.length ≤ 60) && c.states.all lightStB && c.trans.all fun t => decide (t.acts.length ≤ 50)
theorem light24_con (env : Env) (c : ChD) : Con Tryd.prog env 8 [.agg (chAV c)] (B (lightCB c)) := by
  refine con_of_body Tryd.func8 rfl Tryd.call8 (by rw [Tryd.ntmps8]; simp) ?_
  rw [Tryd.ntmps8, Tryd.results8]
  by_cases l1 : 60 < c.states.length
  · have k1 : (60 : Int) < (c.states.length : Int) := by omega
    rw [show lightCB c = false by unfold lightCB; rw [decide_eq_false (show ¬ c.states.length ≤ 60 by omega)]; rfl]
    repeat (first | refine aops_op' rfl (by simp only [go_sem, chAV, k1]; exact ⟨rfl, rfl⟩) ?_ | refine g_run ?_ | refine g_off ?_ | refine aops_nil (d_end ?_) | refine aops_nil ?_ | refine awp_seq ?_ | refine g_text ?_ | refine g_draw Tryd.mixed ?_ | refine awp_block ?_ | refine awp_skip ?_ | (refine awp_exit ?_; simp only [thenA, blockA, ↓reduceIte, Nat.reduceEqDiff, reduceCtorEq]) | refine awp_yes' (by simp only [go_sem, chAV, k1]; exact Is.rfl') ?_ | refine awp_no' (by simp only [go_sem, chAV, k1]; exact Is.rfl') ?_)
    (refine awp_ret ?_; show (resRd _ _ _).run _ = some _; simp only [go_sem, chAV, k1])
  have k1 : ¬ (60 : Int) < (c.states.length : Int) := by omega
  by_cases l2 : 90 < c.trans.length
  · have k2 : (90 : Int) < (c.trans.length : Int) := by omega
    rw [show lightCB c = false by unfold lightCB; rw [decide_eq_false (show ¬ c.trans.length ≤ 90 by omega)]; simp]
    repeat (first | refine aops_op' rfl (by simp only [go_sem, chAV, k1, k2]; exact ⟨rfl, rfl⟩) ?_ | refine g_run ?_ | refine g_off ?_ | refine aops_nil (d_end ?_) | refine aops_nil ?_ | refine awp_seq ?_ | refine g_text ?_ | refine g_draw Tryd.mixed ?_ | refine awp_block ?_ | refine awp_skip ?_ | (refine awp_exit ?_; simp only [thenA, blockA, ↓reduceIte, Nat.reduceEqDiff, reduceCtorEq]) | refine awp_yes' (by simp only [go_sem, chAV, k1, k2]; exact Is.rfl') ?_ | refine awp_no' (by simp only [go_sem, chAV, k1, k2]; exact Is.rfl') ?_)
    (refine awp_ret ?_; show (resRd _ _ _).run _ = some _; simp only [go_sem, chAV, k1, k2])
  have k2 : ¬ (90 : Int) < (c.trans.length : Int) := by omega
  by_cases l3 : 60 < c.vars.length
  · have k3 : (60 : Int) < (c.vars.length : Int) := by omega
    rw [show lightCB c = false by unfold lightCB; rw [decide_eq_false (show ¬ c.vars.length ≤ 60 by omega)]; simp]
    repeat (first | refine aops_op' rfl (by simp only [go_sem, chAV, k1, k2, k3]; exact ⟨rfl, rfl⟩) ?_ | refine g_run ?_ | refine g_off ?_ | refine aops_nil (d_end ?_) | refine aops_nil ?_ | refine awp_seq ?_ | refine g_text ?_ | refine g_draw Tryd.mixed ?_ | refine awp_block ?_ | refine awp_skip ?_ | (refine awp_exit ?_; simp only [thenA, blockA, ↓reduceIte, Nat.reduceEqDiff, reduceCtorEq]) | refine awp_yes' (by simp only [go_sem, chAV, k1, k2, k3]; exact Is.rfl') ?_ | refine awp_no' (by simp only [go_sem, chAV, k1, k2, k3]; exact Is.rfl') ?_)
    (refine awp_ret ?_; show (resRd _ _ _).run _ = some _; simp only [go_sem, chAV, k1, k2, k3])
  have k3 : ¬ (60 : Int) < (c.vars.length : Int) := by omega
  have hr : lightCB c = (c.states.all lightStB && c.trans.all fun t => decide (t.acts.length ≤ 50)) := by
    unfold lightCB
    rw [decide_eq_true (show c.states.length ≤ 60 by omega), decide_eq_true (show c.trans.length ≤ 90 by omega), decide_eq_true (show c.vars.length ≤ 60 by omega)]
    rfl
  rw [hr]
  repeat (first | refine aops_op' rfl (by simp only [go_sem, chAV, k1, k2, k3]; exact ⟨rfl, rfl⟩) ?_ | refine g_run ?_ | refine g_off ?_ | refine aops_nil (d_end ?_) | refine aops_nil ?_ | refine awp_seq ?_ | refine g_text ?_ | refine g_draw Tryd.mixed ?_ | refine awp_block ?_ | refine awp_skip ?_ | (refine awp_exit ?_; simp only [thenA, blockA, ↓reduceIte, Nat.reduceEqDiff, reduceCtorEq]) | refine awp_yes' (by simp only [go_sem, chAV, k1, k2, k3]; exact Is.rfl') ?_ | refine awp_no' (by simp only [go_sem, chAV, k1, k2, k3]; exact Is.rfl') ?_)
  refine awp_loopH (D := Nat) (fun i vs => [(1, .loc 1 (vs 1) 0 0), (3, I i)]) (fun _ _ => [(1, ⟨5, [chAV c], 26, false⟩)]) (fun i _ _ => i ≤ c.states.length ∧ (c.states.take i).all lightStB = true) (fun i => c.states.length - i) 0 ?_ ?_ ?_ ?_
  · exact ⟨Nat.zero_le _, rfl⟩
  · (simp only [go_sem, chAV, k1, k2, k3])
  · (simp only [go_sem, chAV, k1, k2, k3])
  rintro i ws esc ⟨hi, hall⟩
  by_cases hlt : i < c.states.length
  · obtain ⟨s, hs, _⟩ := some_at hlt
    have q1 := nlt hlt
    have q2 := wrap_succ hlt (by omega)
    by_cases m1 : 50 < s.inn.length
    · have m1' : (50 : Int) < (s.inn.length : Int) := by omega
      rw [all_not hs (show lightStB s = false by unfold lightStB; rw [decide_eq_false (show ¬ s.inn.length ≤ 50 by omega)]; rfl), Bool.false_and]
      repeat (first | refine aops_op' rfl (by simp only [go_sem, chAV, stAV, q1, q2, hs, m1']; exact ⟨rfl, rfl⟩) ?_ | refine g_run ?_ | refine g_off ?_ | refine aops_nil (d_end ?_) | refine aops_nil ?_ | refine awp_seq ?_ | refine g_text ?_ | refine g_draw Tryd.mixed ?_ | refine awp_block ?_ | refine awp_skip ?_ | (refine awp_exit ?_; simp only [thenA, blockA, ↓reduceIte, Nat.reduceEqDiff, reduceCtorEq]) | refine awp_yes' (by simp only [go_sem, chAV, stAV, q1, q2, hs, m1']; exact Is.rfl') ?_ | refine awp_no' (by simp only [go_sem, chAV, stAV, q1, q2, hs, m1']; exact Is.rfl') ?_)
      (refine awp_ret ?_; show (resRd _ _ _).run _ = some _; simp only [go_sem, chAV, stAV, q1, q2, hs, m1'])
    have m1' : ¬ (50 : Int) < (s.inn.length : Int) := by omega
    by_cases m2 : 50 < s.out.length
    · have m2' : (50 : Int) < (s.out.length : Int) := by omega
      rw [all_not hs (show lightStB s = false by unfold lightStB; rw [decide_eq_false (show ¬ s.out.length ≤ 50 by omega)]; simp), Bool.false_and]
      repeat (first | refine aops_op' rfl (by simp only [go_sem, chAV, stAV, q1, q2, hs, m1', m2']; exact ⟨rfl, rfl⟩) ?_ | refine g_run ?_ | refine g_off ?_ | refine aops_nil (d_end ?_) | refine aops_nil ?_ | refine awp_seq ?_ | refine g_text ?_ | refine g_draw Tryd.mixed ?_ | refine awp_block ?_ | refine awp_skip ?_ | (refine awp_exit ?_; simp only [thenA, blockA, ↓reduceIte, Nat.reduceEqDiff, reduceCtorEq]) | refine awp_yes' (by simp only [go_sem, chAV, stAV, q1, q2, hs, m1', m2']; exact Is.rfl') ?_ | refine awp_no' (by simp only [go_sem, chAV, stAV, q1, q2, hs, m1', m2']; exact Is.rfl') ?_)
      (refine awp_ret ?_; show (resRd _ _ _).run _ = some _; simp only [go_sem, chAV, stAV, q1, q2, hs, m1', m2'])
    have m2' : ¬ (50 : Int) < (s.out.length : Int) := by omega
    repeat (first | refine aops_op' rfl (by simp only [go_sem, chAV, stAV, q1, q2, hs, m1', m2']; exact ⟨rfl, rfl⟩) ?_ | refine g_run ?_ | refine g_off ?_ | refine aops_nil (d_end ?_) | refine aops_nil ?_ | refine awp_seq ?_ | refine g_text ?_ | refine g_draw Tryd.mixed ?_ | refine awp_block ?_ | refine awp_skip ?_ | (refine awp_exit ?_; simp only [thenA, blockA, ↓reduceIte, Nat.reduceEqDiff, reduceCtorEq]) | refine awp_yes' (by simp only [go_sem, chAV, stAV, q1, q2, hs, m1', m2']; exact Is.rfl') ?_ | refine awp_no' (by simp only [go_sem, chAV, stAV, q1, q2, hs, m1', m2']; exact Is.rfl') ?_)
    refine ⟨i + 1, ⟨hlt, all_take_step hall hs (by unfold lightStB; rw [decide_eq_true (show s.inn.length ≤ 50 by omega), decide_eq_true (show s.out.length ≤ 50 by omega)]; rfl)⟩, ?_, ?_, ?_⟩
    · (simp only [go_sem, chAV, stAV, q1, q2, hs, m1', m2'])
    · (simp only [go_sem, chAV, stAV, q1, q2, hs, m1', m2'])
    · omega
  have q1 : ¬ (i : Int) < (c.states.length : Int) := by omega
  rw [all_end hall (by omega), Bool.true_and]
  repeat (first | refine aops_op' rfl (by simp only [go_sem, chAV, q1]; exact ⟨rfl, rfl⟩) ?_ | refine g_run ?_ | refine g_off ?_ | refine aops_nil (d_end ?_) | refine aops_nil ?_ | refine awp_seq ?_ | refine g_text ?_ | refine g_draw Tryd.mixed ?_ | refine awp_block ?_ | refine awp_skip ?_ | (refine awp_exit ?_; simp only [thenA, blockA, ↓reduceIte, Nat.reduceEqDiff, reduceCtorEq]) | refine awp_yes' (by simp only [go_sem, chAV, q1]; exact Is.rfl') ?_ | refine awp_no' (by simp only [go_sem, chAV, q1]; exact Is.rfl') ?_)
  refine awp_loopH (D := Nat) (fun i vs => [(1, .loc 1 (vs 1) 0 0), (4, I i)]) (fun _ _ => [(1, ⟨5, [chAV c], 26, false⟩)]) (fun i _ _ => i ≤ c.trans.length ∧ (c.trans.take i).all (fun t => decide (t.acts.length ≤ 50)) = true) (fun i => c.trans.length - i) 0 ?_ ?_ ?_ ?_
  · exact ⟨Nat.zero_le _, rfl⟩
  · (simp only [go_sem, chAV, q1])
  · (simp only [go_sem, chAV, q1])
  clear ws esc hi hall q1 hlt i
  rintro i ws esc ⟨hi, hall⟩
  by_cases hlt : i < c.trans.length
  · obtain ⟨t, ht, _⟩ := some_at hlt
    have q1 := nlt hlt
    have q2 := wrap_succ hlt (by omega)
    by_cases m1 : 50 < t.acts.length
    · have m1' : (50 : Int) < (t.acts.length : Int) := by omega
      rw [all_not (p := fun t : TrD => decide (t.acts.length ≤ 50)) ht (decide_eq_false (by omega))]
      repeat (first | refine aops_op' rfl (by simp only [go_sem, chAV, trAV, q1, q2, ht, m1']; exact ⟨rfl, rfl⟩) ?_ | refine g_run ?_ | refine g_off ?_ | refine aops_nil (d_end ?_) | refine aops_nil ?_ | refine awp_seq ?_ | refine g_text ?_ | refine g_draw Tryd.mixed ?_ | refine awp_block ?_ | refine awp_skip ?_ | (refine awp_exit ?_; simp only [thenA, blockA, ↓reduceIte, Nat.reduceEqDiff, reduceCtorEq]) | refine awp_yes' (by simp only [go_sem, chAV, trAV, q1, q2, ht, m1']; exact Is.rfl') ?_ | refine awp_no' (by simp only [go_sem, chAV, trAV, q1, q2, ht, m1']; exact Is.rfl') ?_)
      (refine awp_ret ?_; show (resRd _ _ _).run _ = some _; simp only [go_sem, chAV, trAV, q1, q2, ht, m1'])
    have m1' : ¬ (50 : Int) < (t.acts.length : Int) := by omega
    repeat (first | refine aops_op' rfl (by simp only [go_sem, chAV, trAV, q1, q2, ht, m1']; exact ⟨rfl, rfl⟩) ?_ | refine g_run ?_ | refine g_off ?_ | refine aops_nil (d_end ?_) | refine aops_nil ?_ | refine awp_seq ?_ | refine g_text ?_ | refine g_draw Tryd.mixed ?_ | refine awp_block ?_ | refine awp_skip ?_ | (refine awp_exit ?_; simp only [thenA, blockA, ↓reduceIte, Nat.reduceEqDiff, reduceCtorEq]) | refine awp_yes' (by simp only [go_sem, chAV, trAV, q1, q2, ht, m1']; exact Is.rfl') ?_ | refine awp_no' (by simp only [go_sem, chAV, trAV, q1, q2, ht, m1']; exact Is.rfl') ?_)
    refine ⟨i + 1, ⟨hlt, all_take_step (p := fun t : TrD => decide (t.acts.length ≤ 50)) hall ht (decide_eq_true (by omega))⟩, ?_, ?_, ?_⟩
    · (simp only [go_sem, chAV, trAV, q1, q2, ht, m1'])
    · (simp only [go_sem, chAV, trAV, q1, q2, ht, m1'])
    · omega
  have q1 : ¬ (i : Int) < (c.trans.length : Int) := by omega
  rw [all_end hall (by omega)]
  repeat (first | refine aops_op' rfl (by simp only [go_sem, chAV, q1]; exact ⟨rfl, rfl⟩) ?_ | refine g_run ?_ | refine g_off ?_ | refine aops_nil (d_end ?_) | refine aops_nil ?_ | refine awp_seq ?_ | refine g_text ?_ | refine g_draw Tryd.mixed ?_ | refine awp_block ?_ | refine awp_skip ?_ | (refine awp_exit ?_; simp only [thenA, blockA, ↓reduceIte, Nat.reduceEqDiff, reduceCtorEq]) | refine awp_yes' (by simp only [go_sem, chAV, q1]; exact Is.rfl') ?_ | refine awp_no' (by simp only [go_sem, chAV, q1]; exact Is.rfl') ?_)
  (refine awp_ret ?_; show (resRd _ _ _).run _ = some _; simp only [go_sem, chAV, q1])
end Go.Proofs.YtaggnpieofpphaaDoor
