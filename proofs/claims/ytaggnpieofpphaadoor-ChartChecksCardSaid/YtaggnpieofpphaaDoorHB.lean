/- Contracts of the document's saying whether charts are the same: by the walk without memory. -/
import Derived.Test.YtaggnpieofpphaaDoorH9
set_option linter.unusedSimpArgs false
namespace Go.Proofs.YtaggnpieofpphaaDoor
open Go.RowKit
set_option maxRecDepth 100000
set_option maxHeartbeats 8000000
attribute [local go_sem_proc] reduceIte reduceCtorEq Nat.reduceAdd Nat.reduceSub Nat.reduceEqDiff Nat.reduceLT Nat.reduceLeDiff Nat.reduceMul Int.reduceToNat Int.reduceBEq Int.reduceBNe Int.reduceEq Int.reduceLT Int.reduceLE
attribute [local go_sem] resRd resOne resAll HoldF HoldR Takes thenA blockA ev_move ev_assign ev_pick ev_alloc ev_box ev_build ev_buildSlice ev_load ev_store ev_binOp ev_unOp ev_convert ev_iface ev_make ev_slice ev_fieldAddr ev_field ev_indexAddr ev_index ev_extract ev_len ev_append ev_min ev_max evMin evMax gt_tmp gt_int gt_bool gt_str gt_nilS gt_nilP gt_nilI pickRd allocRd buildRd sliceRd loadRd unRd ifaceRd exRd val optRd callRd seen AV.plain adopt fzArgs Rd.run AV.asCells newBox runL Comes' Rd.row Rd.bind Out.app apps Eff.app St.renew St.setRow St.show St.put St.init upd evStore evBin eqFs eqCell evConv evSeq evLen evIndexAddr evFieldAddr evField evIndex bound evSlice evAppend evMake loadOf fillAV fillEs fzParts fz fzCell fzCells shows isConstOp splice wrs wes Value.oneCell' List.getD_cons_zero List.getD_cons_succ List.getD_nil List.length_cons List.length_nil List.map_cons List.map_nil List.nil_append List.cons_append List.all_cons List.all_nil List.getElem?_cons_zero List.getElem?_cons_succ List.set_cons_zero List.set_cons_succ List.take_succ_cons List.take_zero List.drop_succ_cons List.drop_zero List.take_nil List.drop_nil List.replicate_succ List.replicate_zero Bool.and_true Bool.true_and Bool.and_self and_self true_and and_true Nat.zero_add Nat.add_zero Option.some.injEq Nat.zero_lt_succ Bool.not_true Bool.not_false ne_eq not_true_eq_false not_false_eq_true Option.map_some Option.map_none List.toList_toArray head headF headR List.length_map Int.toNat_natCast Int.natCast_nonneg List.getElem?_map decide_true decide_false Bool.false_eq_true if_true if_false Bool.or_self Bool.or_true Bool.true_or Bool.false_or Bool.or_false Bool.and_false Bool.false_and List.flatten_cons List.flatten_nil List.append_nil nat0 or_self or_false false_or or_true true_or and_false false_and List.length_append List.isEmpty_nil bne_self_eq_false beq_self_eq_true fits_small strL_l bytesOf_map wants Int.cast_ofNat_Int gt_iff_lt ge_iff_le
attribute [local go_sem ←] List.map_drop List.map_take

theorem rSameActs_con (env : Env) (a b : List ActD) (hn : a.length ≤ 9223372036854775807) (hf : ∀ x ∈ a, few_act x) : Con Tryd.prog env 41 [actsAV a, actsAV b] (B (a == b)) := by
  refine con_of_body Tryd.func41 rfl Tryd.call41 (by rw [Tryd.ntmps41]; simp) ?_
  rw [Tryd.ntmps41, Tryd.results41]
  by_cases hl : a.length = b.length
  case neg =>
    have k0 := ibne hl
    rw [unlike_len hl]
    repeat (first | refine aops_op' rfl (by simp only [go_sem, k0, bne]; exact ⟨rfl, rfl⟩) ?_ | refine g_run ?_ | refine g_off ?_ | refine aops_nil (d_end ?_) | refine aops_nil ?_ | refine awp_seq ?_ | refine g_text ?_ | refine g_draw Tryd.mixed ?_ | refine awp_block ?_ | refine awp_skip ?_ | (refine awp_exit ?_; simp only [thenA, blockA, ↓reduceIte, Nat.reduceEqDiff, reduceCtorEq]) | refine awp_yes' (by simp only [go_sem, k0, bne]; exact Is.rfl') ?_ | refine awp_no' (by simp only [go_sem, k0, bne]; exact Is.rfl') ?_)
    (refine awp_ret ?_; show (resRd _ _ _).run _ = some _; simp only [go_sem, k0, bne])
  have k0 : ((a.length : Int) == (b.length : Int)) = true := by rw [hl]; simp
  repeat (first | refine aops_op' rfl (by simp only [go_sem, k0, bne]; exact ⟨rfl, rfl⟩) ?_ | refine g_run ?_ | refine g_off ?_ | refine aops_nil (d_end ?_) | refine aops_nil ?_ | refine awp_seq ?_ | refine g_text ?_ | refine g_draw Tryd.mixed ?_ | refine awp_block ?_ | refine awp_skip ?_ | (refine awp_exit ?_; simp only [thenA, blockA, ↓reduceIte, Nat.reduceEqDiff, reduceCtorEq]) | refine awp_yes' (by simp only [go_sem, k0, bne]; exact Is.rfl') ?_ | refine awp_no' (by simp only [go_sem, k0, bne]; exact Is.rfl') ?_)
  refine awp_loopH (D := Nat) (fun i _ => [(0, actsAV a), (1, actsAV b), (5, I i)]) (fun _ _ => []) (fun i _ _ => i ≤ a.length ∧ a.take i = b.take i) (fun i => a.length - i) 0 ?_ ?_ ?_ ?_
  · exact ⟨Nat.zero_le _, rfl⟩
  · (simp only [go_sem, k0, bne])
  · (simp only [go_sem, k0, bne])
  rintro i ws esc ⟨hi, ht⟩
  by_cases hlt : i < a.length
  · obtain ⟨x, hx, hxm⟩ := some_at hlt
    obtain ⟨y, hy, hym⟩ := some_at (show i < b.length by omega)
    have k1 := nlt hlt
    have k3 := nlt (show i < b.length by omega)
    have k2 := wrap_succ hlt hn
    have hc := rSameOps_con env x.code y.code (by have := (hf x hxm).2.1; unfold maxLen at this; omega)
    have hno : (x == y) = false → (a == b) = false := fun h => unlike_at hx hy (by simpa using h)
    have hyes : (x == y) = true → a.take (i + 1) = b.take (i + 1) := fun h => take_same ht hx hy (by simpa using h)
    cases e0 : (x.kind == y.kind)
    · rw [hno (by rw [act_eq x y]; simp [e0])]
      repeat (first | refine aops_op' rfl (by simp only [go_sem, k1, k2, k3, hx, hy, actAV, e0, bne]; exact ⟨rfl, rfl⟩) ?_ | refine g_run ?_ | refine g_off ?_ | refine aops_call' rfl (hc) (by simp only [go_sem, k1, k2, k3, hx, hy, actAV, e0, bne]; exact Is.rfl') (by simp only [go_sem, k1, k2, k3, hx, hy, actAV, e0, bne]; exact ⟨rfl, rfl⟩) ?_ | refine aops_nil (d_end ?_) | refine aops_nil ?_ | refine awp_seq ?_ | refine g_text ?_ | refine g_draw Tryd.mixed ?_ | refine awp_block ?_ | refine awp_skip ?_ | (refine awp_exit ?_; simp only [thenA, blockA, ↓reduceIte, Nat.reduceEqDiff, reduceCtorEq]) | refine awp_yes' (by simp only [go_sem, k1, k2, k3, hx, hy, actAV, e0, bne]; exact Is.rfl') ?_ | refine awp_no' (by simp only [go_sem, k1, k2, k3, hx, hy, actAV, e0, bne]; exact Is.rfl') ?_)
      (refine awp_ret ?_; show (resRd _ _ _).run _ = some _; simp only [go_sem, k1, k2, k3, hx, hy, actAV, e0, bne])
    cases e1 : (x.n == y.n)
    · rw [hno (by rw [act_eq x y]; simp [e0, e1])]
      repeat (first | refine aops_op' rfl (by simp only [go_sem, k1, k2, k3, hx, hy, actAV, e0, e1, bne]; exact ⟨rfl, rfl⟩) ?_ | refine g_run ?_ | refine g_off ?_ | refine aops_call' rfl (hc) (by simp only [go_sem, k1, k2, k3, hx, hy, actAV, e0, e1, bne]; exact Is.rfl') (by simp only [go_sem, k1, k2, k3, hx, hy, actAV, e0, e1, bne]; exact ⟨rfl, rfl⟩) ?_ | refine aops_nil (d_end ?_) | refine aops_nil ?_ | refine awp_seq ?_ | refine g_text ?_ | refine g_draw Tryd.mixed ?_ | refine awp_block ?_ | refine awp_skip ?_ | (refine awp_exit ?_; simp only [thenA, blockA, ↓reduceIte, Nat.reduceEqDiff, reduceCtorEq]) | refine awp_yes' (by simp only [go_sem, k1, k2, k3, hx, hy, actAV, e0, e1, bne]; exact Is.rfl') ?_ | refine awp_no' (by simp only [go_sem, k1, k2, k3, hx, hy, actAV, e0, e1, bne]; exact Is.rfl') ?_)
      (refine awp_ret ?_; show (resRd _ _ _).run _ = some _; simp only [go_sem, k1, k2, k3, hx, hy, actAV, e0, e1, bne])
    cases e2 : (x.name == y.name)
    · rw [hno (by rw [act_eq x y]; simp [e0, e1, e2])]
      repeat (first | refine aops_op' rfl (by simp only [go_sem, k1, k2, k3, hx, hy, actAV, e0, e1, e2, bne]; exact ⟨rfl, rfl⟩) ?_ | refine g_run ?_ | refine g_off ?_ | refine aops_call' rfl (hc) (by simp only [go_sem, k1, k2, k3, hx, hy, actAV, e0, e1, e2, bne]; exact Is.rfl') (by simp only [go_sem, k1, k2, k3, hx, hy, actAV, e0, e1, e2, bne]; exact ⟨rfl, rfl⟩) ?_ | refine aops_nil (d_end ?_) | refine aops_nil ?_ | refine awp_seq ?_ | refine g_text ?_ | refine g_draw Tryd.mixed ?_ | refine awp_block ?_ | refine awp_skip ?_ | (refine awp_exit ?_; simp only [thenA, blockA, ↓reduceIte, Nat.reduceEqDiff, reduceCtorEq]) | refine awp_yes' (by simp only [go_sem, k1, k2, k3, hx, hy, actAV, e0, e1, e2, bne]; exact Is.rfl') ?_ | refine awp_no' (by simp only [go_sem, k1, k2, k3, hx, hy, actAV, e0, e1, e2, bne]; exact Is.rfl') ?_)
      (refine awp_ret ?_; show (resRd _ _ _).run _ = some _; simp only [go_sem, k1, k2, k3, hx, hy, actAV, e0, e1, e2, bne])
    cases e3 : (x.code == y.code)
    · rw [hno (by rw [act_eq x y]; simp [e0, e1, e2, e3])]
      repeat (first | refine aops_op' rfl (by simp only [go_sem, k1, k2, k3, hx, hy, actAV, e0, e1, e2, e3, bne]; exact ⟨rfl, rfl⟩) ?_ | refine g_run ?_ | refine g_off ?_ | refine aops_call' rfl (hc) (by simp only [go_sem, k1, k2, k3, hx, hy, actAV, e0, e1, e2, e3, bne]; exact Is.rfl') (by simp only [go_sem, k1, k2, k3, hx, hy, actAV, e0, e1, e2, e3, bne]; exact ⟨rfl, rfl⟩) ?_ | refine aops_nil (d_end ?_) | refine aops_nil ?_ | refine awp_seq ?_ | refine g_text ?_ | refine g_draw Tryd.mixed ?_ | refine awp_block ?_ | refine awp_skip ?_ | (refine awp_exit ?_; simp only [thenA, blockA, ↓reduceIte, Nat.reduceEqDiff, reduceCtorEq]) | refine awp_yes' (by simp only [go_sem, k1, k2, k3, hx, hy, actAV, e0, e1, e2, e3, bne]; exact Is.rfl') ?_ | refine awp_no' (by simp only [go_sem, k1, k2, k3, hx, hy, actAV, e0, e1, e2, e3, bne]; exact Is.rfl') ?_)
      (refine awp_ret ?_; show (resRd _ _ _).run _ = some _; simp only [go_sem, k1, k2, k3, hx, hy, actAV, e0, e1, e2, e3, bne])
    repeat (first | refine aops_op' rfl (by simp only [go_sem, k1, k2, k3, hx, hy, actAV, e0, e1, e2, e3, bne]; exact ⟨rfl, rfl⟩) ?_ | refine g_run ?_ | refine g_off ?_ | refine aops_call' rfl (hc) (by simp only [go_sem, k1, k2, k3, hx, hy, actAV, e0, e1, e2, e3, bne]; exact Is.rfl') (by simp only [go_sem, k1, k2, k3, hx, hy, actAV, e0, e1, e2, e3, bne]; exact ⟨rfl, rfl⟩) ?_ | refine aops_nil (d_end ?_) | refine aops_nil ?_ | refine awp_seq ?_ | refine g_text ?_ | refine g_draw Tryd.mixed ?_ | refine awp_block ?_ | refine awp_skip ?_ | (refine awp_exit ?_; simp only [thenA, blockA, ↓reduceIte, Nat.reduceEqDiff, reduceCtorEq]) | refine awp_yes' (by simp only [go_sem, k1, k2, k3, hx, hy, actAV, e0, e1, e2, e3, bne]; exact Is.rfl') ?_ | refine awp_no' (by simp only [go_sem, k1, k2, k3, hx, hy, actAV, e0, e1, e2, e3, bne]; exact Is.rfl') ?_)
    refine ⟨i + 1, ⟨hlt, hyes (by rw [act_eq x y]; simp [e0, e1, e2, e3])⟩, ?_, ?_, ?_⟩
    · (simp only [go_sem, k1, k2, k3, hx, hy, actAV, e0, e1, e2, e3, bne])
    · (simp only [go_sem, k1, k2, k3, hx, hy, actAV, e0, e1, e2, e3, bne])
    · omega
  · have k1 : ¬ (i : Int) < (a.length : Int) := by omega
    rw [same_all ht (by omega) (by omega)]
    repeat (first | refine aops_op' rfl (by simp only [go_sem, k1]; exact ⟨rfl, rfl⟩) ?_ | refine g_run ?_ | refine g_off ?_ | refine aops_nil (d_end ?_) | refine aops_nil ?_ | refine awp_seq ?_ | refine g_text ?_ | refine g_draw Tryd.mixed ?_ | refine awp_block ?_ | refine awp_skip ?_ | (refine awp_exit ?_; simp only [thenA, blockA, ↓reduceIte, Nat.reduceEqDiff, reduceCtorEq]) | refine awp_yes' (by simp only [go_sem, k1]; exact Is.rfl') ?_ | refine awp_no' (by simp only [go_sem, k1]; exact Is.rfl') ?_)
    (refine awp_ret ?_; show (resRd _ _ _).run _ = some _; simp only [go_sem, k1])
theorem rSameStates_con (env : Env) (a b : List StD) (hn : a.length ≤ 9223372036854775807) (hf : ∀ x ∈ a, few_st x) : Con Tryd.prog env 39 [stsAV a, stsAV b] (B (a == b)) := by
  refine con_of_body Tryd.func39 rfl Tryd.call39 (by rw [Tryd.ntmps39]; simp) ?_
  rw [Tryd.ntmps39, Tryd.results39]
  by_cases hl : a.length = b.length
  case neg =>
    have k0 := ibne hl
    rw [unlike_len hl]
    repeat (first | refine aops_op' rfl (by simp only [go_sem, k0, bne]; exact ⟨rfl, rfl⟩) ?_ | refine g_run ?_ | refine g_off ?_ | refine aops_nil (d_end ?_) | refine aops_nil ?_ | refine awp_seq ?_ | refine g_text ?_ | refine g_draw Tryd.mixed ?_ | refine awp_block ?_ | refine awp_skip ?_ | (refine awp_exit ?_; simp only [thenA, blockA, ↓reduceIte, Nat.reduceEqDiff, reduceCtorEq]) | refine awp_yes' (by simp only [go_sem, k0, bne]; exact Is.rfl') ?_ | refine awp_no' (by simp only [go_sem, k0, bne]; exact Is.rfl') ?_)
    (refine awp_ret ?_; show (resRd _ _ _).run _ = some _; simp only [go_sem, k0, bne])
  have k0 : ((a.length : Int) == (b.length : Int)) = true := by rw [hl]; simp
  repeat (first | refine aops_op' rfl (by simp only [go_sem, k0, bne]; exact ⟨rfl, rfl⟩) ?_ | refine g_run ?_ | refine g_off ?_ | refine aops_nil (d_end ?_) | refine aops_nil ?_ | refine awp_seq ?_ | refine g_text ?_ | refine g_draw Tryd.mixed ?_ | refine awp_block ?_ | refine awp_skip ?_ | (refine awp_exit ?_; simp only [thenA, blockA, ↓reduceIte, Nat.reduceEqDiff, reduceCtorEq]) | refine awp_yes' (by simp only [go_sem, k0, bne]; exact Is.rfl') ?_ | refine awp_no' (by simp only [go_sem, k0, bne]; exact Is.rfl') ?_)
  refine awp_loopH (D := Nat) (fun i _ => [(0, stsAV a), (1, stsAV b), (5, I i)]) (fun _ _ => []) (fun i _ _ => i ≤ a.length ∧ a.take i = b.take i) (fun i => a.length - i) 0 ?_ ?_ ?_ ?_
  · exact ⟨Nat.zero_le _, rfl⟩
  · (simp only [go_sem, k0, bne])
  · (simp only [go_sem, k0, bne])
  rintro i ws esc ⟨hi, ht⟩
  by_cases hlt : i < a.length
  · obtain ⟨x, hx, hxm⟩ := some_at hlt
    obtain ⟨y, hy, hym⟩ := some_at (show i < b.length by omega)
    have k1 := nlt hlt
    have k3 := nlt (show i < b.length by omega)
    have k2 := wrap_succ hlt hn
    have h1 := rSameActs_con env x.inn y.inn (by have := (hf x hxm).2.1.1; unfold maxLen at this; omega) (hf x hxm).2.1.2
    have h2 := rSameActs_con env x.out y.out (by have := (hf x hxm).2.2.1; unfold maxLen at this; omega) (hf x hxm).2.2.2
    have hno : (x == y) = false → (a == b) = false := fun h => unlike_at hx hy (by simpa using h)
    have hyes : (x == y) = true → a.take (i + 1) = b.take (i + 1) := fun h => take_same ht hx hy (by simpa using h)
    cases e0 : (x.name == y.name)
    · rw [hno (by rw [st_eq x y]; simp [e0])]
      repeat (first | refine aops_op' rfl (by simp only [go_sem, k1, k2, k3, hx, hy, stAV, e0, bne]; exact ⟨rfl, rfl⟩) ?_ | refine g_run ?_ | refine g_off ?_ | refine aops_call' rfl (h1) (by simp only [go_sem, k1, k2, k3, hx, hy, stAV, e0, bne]; exact Is.rfl') (by simp only [go_sem, k1, k2, k3, hx, hy, stAV, e0, bne]; exact ⟨rfl, rfl⟩) ?_ | refine aops_call' rfl (h2) (by simp only [go_sem, k1, k2, k3, hx, hy, stAV, e0, bne]; exact Is.rfl') (by simp only [go_sem, k1, k2, k3, hx, hy, stAV, e0, bne]; exact ⟨rfl, rfl⟩) ?_ | refine aops_nil (d_end ?_) | refine aops_nil ?_ | refine awp_seq ?_ | refine g_text ?_ | refine g_draw Tryd.mixed ?_ | refine awp_block ?_ | refine awp_skip ?_ | (refine awp_exit ?_; simp only [thenA, blockA, ↓reduceIte, Nat.reduceEqDiff, reduceCtorEq]) | refine awp_yes' (by simp only [go_sem, k1, k2, k3, hx, hy, stAV, e0, bne]; exact Is.rfl') ?_ | refine awp_no' (by simp only [go_sem, k1, k2, k3, hx, hy, stAV, e0, bne]; exact Is.rfl') ?_)
      (refine awp_ret ?_; show (resRd _ _ _).run _ = some _; simp only [go_sem, k1, k2, k3, hx, hy, stAV, e0, bne])
    cases e1 : (x.kind == y.kind)
    · rw [hno (by rw [st_eq x y]; simp [e0, e1])]
      repeat (first | refine aops_op' rfl (by simp only [go_sem, k1, k2, k3, hx, hy, stAV, e0, e1, bne]; exact ⟨rfl, rfl⟩) ?_ | refine g_run ?_ | refine g_off ?_ | refine aops_call' rfl (h1) (by simp only [go_sem, k1, k2, k3, hx, hy, stAV, e0, e1, bne]; exact Is.rfl') (by simp only [go_sem, k1, k2, k3, hx, hy, stAV, e0, e1, bne]; exact ⟨rfl, rfl⟩) ?_ | refine aops_call' rfl (h2) (by simp only [go_sem, k1, k2, k3, hx, hy, stAV, e0, e1, bne]; exact Is.rfl') (by simp only [go_sem, k1, k2, k3, hx, hy, stAV, e0, e1, bne]; exact ⟨rfl, rfl⟩) ?_ | refine aops_nil (d_end ?_) | refine aops_nil ?_ | refine awp_seq ?_ | refine g_text ?_ | refine g_draw Tryd.mixed ?_ | refine awp_block ?_ | refine awp_skip ?_ | (refine awp_exit ?_; simp only [thenA, blockA, ↓reduceIte, Nat.reduceEqDiff, reduceCtorEq]) | refine awp_yes' (by simp only [go_sem, k1, k2, k3, hx, hy, stAV, e0, e1, bne]; exact Is.rfl') ?_ | refine awp_no' (by simp only [go_sem, k1, k2, k3, hx, hy, stAV, e0, e1, bne]; exact Is.rfl') ?_)
      (refine awp_ret ?_; show (resRd _ _ _).run _ = some _; simp only [go_sem, k1, k2, k3, hx, hy, stAV, e0, e1, bne])
    cases e2 : (x.parent == y.parent)
    · rw [hno (by rw [st_eq x y]; simp [e0, e1, e2])]
      repeat (first | refine aops_op' rfl (by simp only [go_sem, k1, k2, k3, hx, hy, stAV, e0, e1, e2, bne]; exact ⟨rfl, rfl⟩) ?_ | refine g_run ?_ | refine g_off ?_ | refine aops_call' rfl (h1) (by simp only [go_sem, k1, k2, k3, hx, hy, stAV, e0, e1, e2, bne]; exact Is.rfl') (by simp only [go_sem, k1, k2, k3, hx, hy, stAV, e0, e1, e2, bne]; exact ⟨rfl, rfl⟩) ?_ | refine aops_call' rfl (h2) (by simp only [go_sem, k1, k2, k3, hx, hy, stAV, e0, e1, e2, bne]; exact Is.rfl') (by simp only [go_sem, k1, k2, k3, hx, hy, stAV, e0, e1, e2, bne]; exact ⟨rfl, rfl⟩) ?_ | refine aops_nil (d_end ?_) | refine aops_nil ?_ | refine awp_seq ?_ | refine g_text ?_ | refine g_draw Tryd.mixed ?_ | refine awp_block ?_ | refine awp_skip ?_ | (refine awp_exit ?_; simp only [thenA, blockA, ↓reduceIte, Nat.reduceEqDiff, reduceCtorEq]) | refine awp_yes' (by simp only [go_sem, k1, k2, k3, hx, hy, stAV, e0, e1, e2, bne]; exact Is.rfl') ?_ | refine awp_no' (by simp only [go_sem, k1, k2, k3, hx, hy, stAV, e0, e1, e2, bne]; exact Is.rfl') ?_)
      (refine awp_ret ?_; show (resRd _ _ _).run _ = some _; simp only [go_sem, k1, k2, k3, hx, hy, stAV, e0, e1, e2, bne])
    cases e3 : (x.initial == y.initial)
    · rw [hno (by rw [st_eq x y]; simp [e0, e1, e2, e3])]
      repeat (first | refine aops_op' rfl (by simp only [go_sem, k1, k2, k3, hx, hy, stAV, e0, e1, e2, e3, bne]; exact ⟨rfl, rfl⟩) ?_ | refine g_run ?_ | refine g_off ?_ | refine aops_call' rfl (h1) (by simp only [go_sem, k1, k2, k3, hx, hy, stAV, e0, e1, e2, e3, bne]; exact Is.rfl') (by simp only [go_sem, k1, k2, k3, hx, hy, stAV, e0, e1, e2, e3, bne]; exact ⟨rfl, rfl⟩) ?_ | refine aops_call' rfl (h2) (by simp only [go_sem, k1, k2, k3, hx, hy, stAV, e0, e1, e2, e3, bne]; exact Is.rfl') (by simp only [go_sem, k1, k2, k3, hx, hy, stAV, e0, e1, e2, e3, bne]; exact ⟨rfl, rfl⟩) ?_ | refine aops_nil (d_end ?_) | refine aops_nil ?_ | refine awp_seq ?_ | refine g_text ?_ | refine g_draw Tryd.mixed ?_ | refine awp_block ?_ | refine awp_skip ?_ | (refine awp_exit ?_; simp only [thenA, blockA, ↓reduceIte, Nat.reduceEqDiff, reduceCtorEq]) | refine awp_yes' (by simp only [go_sem, k1, k2, k3, hx, hy, stAV, e0, e1, e2, e3, bne]; exact Is.rfl') ?_ | refine awp_no' (by simp only [go_sem, k1, k2, k3, hx, hy, stAV, e0, e1, e2, e3, bne]; exact Is.rfl') ?_)
      (refine awp_ret ?_; show (resRd _ _ _).run _ = some _; simp only [go_sem, k1, k2, k3, hx, hy, stAV, e0, e1, e2, e3, bne])
    cases e4 : (x.inn == y.inn)
    · rw [hno (by rw [st_eq x y]; simp [e0, e1, e2, e3, e4])]
      repeat (first | refine aops_op' rfl (by simp only [go_sem, k1, k2, k3, hx, hy, stAV, e0, e1, e2, e3, e4, bne]; exact ⟨rfl, rfl⟩) ?_ | refine g_run ?_ | refine g_off ?_ | refine aops_call' rfl (h1) (by simp only [go_sem, k1, k2, k3, hx, hy, stAV, e0, e1, e2, e3, e4, bne]; exact Is.rfl') (by simp only [go_sem, k1, k2, k3, hx, hy, stAV, e0, e1, e2, e3, e4, bne]; exact ⟨rfl, rfl⟩) ?_ | refine aops_call' rfl (h2) (by simp only [go_sem, k1, k2, k3, hx, hy, stAV, e0, e1, e2, e3, e4, bne]; exact Is.rfl') (by simp only [go_sem, k1, k2, k3, hx, hy, stAV, e0, e1, e2, e3, e4, bne]; exact ⟨rfl, rfl⟩) ?_ | refine aops_nil (d_end ?_) | refine aops_nil ?_ | refine awp_seq ?_ | refine g_text ?_ | refine g_draw Tryd.mixed ?_ | refine awp_block ?_ | refine awp_skip ?_ | (refine awp_exit ?_; simp only [thenA, blockA, ↓reduceIte, Nat.reduceEqDiff, reduceCtorEq]) | refine awp_yes' (by simp only [go_sem, k1, k2, k3, hx, hy, stAV, e0, e1, e2, e3, e4, bne]; exact Is.rfl') ?_ | refine awp_no' (by simp only [go_sem, k1, k2, k3, hx, hy, stAV, e0, e1, e2, e3, e4, bne]; exact Is.rfl') ?_)
      (refine awp_ret ?_; show (resRd _ _ _).run _ = some _; simp only [go_sem, k1, k2, k3, hx, hy, stAV, e0, e1, e2, e3, e4, bne])
    cases e5 : (x.out == y.out)
    · rw [hno (by rw [st_eq x y]; simp [e0, e1, e2, e3, e4, e5])]
      repeat (first | refine aops_op' rfl (by simp only [go_sem, k1, k2, k3, hx, hy, stAV, e0, e1, e2, e3, e4, e5, bne]; exact ⟨rfl, rfl⟩) ?_ | refine g_run ?_ | refine g_off ?_ | refine aops_call' rfl (h1) (by simp only [go_sem, k1, k2, k3, hx, hy, stAV, e0, e1, e2, e3, e4, e5, bne]; exact Is.rfl') (by simp only [go_sem, k1, k2, k3, hx, hy, stAV, e0, e1, e2, e3, e4, e5, bne]; exact ⟨rfl, rfl⟩) ?_ | refine aops_call' rfl (h2) (by simp only [go_sem, k1, k2, k3, hx, hy, stAV, e0, e1, e2, e3, e4, e5, bne]; exact Is.rfl') (by simp only [go_sem, k1, k2, k3, hx, hy, stAV, e0, e1, e2, e3, e4, e5, bne]; exact ⟨rfl, rfl⟩) ?_ | refine aops_nil (d_end ?_) | refine aops_nil ?_ | refine awp_seq ?_ | refine g_text ?_ | refine g_draw Tryd.mixed ?_ | refine awp_block ?_ | refine awp_skip ?_ | (refine awp_exit ?_; simp only [thenA, blockA, ↓reduceIte, Nat.reduceEqDiff, reduceCtorEq]) | refine awp_yes' (by simp only [go_sem, k1, k2, k3, hx, hy, stAV, e0, e1, e2, e3, e4, e5, bne]; exact Is.rfl') ?_ | refine awp_no' (by simp only [go_sem, k1, k2, k3, hx, hy, stAV, e0, e1, e2, e3, e4, e5, bne]; exact Is.rfl') ?_)
      (refine awp_ret ?_; show (resRd _ _ _).run _ = some _; simp only [go_sem, k1, k2, k3, hx, hy, stAV, e0, e1, e2, e3, e4, e5, bne])
    repeat (first | refine aops_op' rfl (by simp only [go_sem, k1, k2, k3, hx, hy, stAV, e0, e1, e2, e3, e4, e5, bne]; exact ⟨rfl, rfl⟩) ?_ | refine g_run ?_ | refine g_off ?_ | refine aops_call' rfl (h1) (by simp only [go_sem, k1, k2, k3, hx, hy, stAV, e0, e1, e2, e3, e4, e5, bne]; exact Is.rfl') (by simp only [go_sem, k1, k2, k3, hx, hy, stAV, e0, e1, e2, e3, e4, e5, bne]; exact ⟨rfl, rfl⟩) ?_ | refine aops_call' rfl (h2) (by simp only [go_sem, k1, k2, k3, hx, hy, stAV, e0, e1, e2, e3, e4, e5, bne]; exact Is.rfl') (by simp only [go_sem, k1, k2, k3, hx, hy, stAV, e0, e1, e2, e3, e4, e5, bne]; exact ⟨rfl, rfl⟩) ?_ | refine aops_nil (d_end ?_) | refine aops_nil ?_ | refine awp_seq ?_ | refine g_text ?_ | refine g_draw Tryd.mixed ?_ | refine awp_block ?_ | refine awp_skip ?_ | (refine awp_exit ?_; simp only [thenA, blockA, ↓reduceIte, Nat.reduceEqDiff, reduceCtorEq]) | refine awp_yes' (by simp only [go_sem, k1, k2, k3, hx, hy, stAV, e0, e1, e2, e3, e4, e5, bne]; exact Is.rfl') ?_ | refine awp_no' (by simp only [go_sem, k1, k2, k3, hx, hy, stAV, e0, e1, e2, e3, e4, e5, bne]; exact Is.rfl') ?_)
    refine ⟨i + 1, ⟨hlt, hyes (by rw [st_eq x y]; simp [e0, e1, e2, e3, e4, e5])⟩, ?_, ?_, ?_⟩
    · (simp only [go_sem, k1, k2, k3, hx, hy, stAV, e0, e1, e2, e3, e4, e5, bne])
    · (simp only [go_sem, k1, k2, k3, hx, hy, stAV, e0, e1, e2, e3, e4, e5, bne])
    · omega
  · have k1 : ¬ (i : Int) < (a.length : Int) := by omega
    rw [same_all ht (by omega) (by omega)]
    repeat (first | refine aops_op' rfl (by simp only [go_sem, k1]; exact ⟨rfl, rfl⟩) ?_ | refine g_run ?_ | refine g_off ?_ | refine aops_nil (d_end ?_) | refine aops_nil ?_ | refine awp_seq ?_ | refine g_text ?_ | refine g_draw Tryd.mixed ?_ | refine awp_block ?_ | refine awp_skip ?_ | (refine awp_exit ?_; simp only [thenA, blockA, ↓reduceIte, Nat.reduceEqDiff, reduceCtorEq]) | refine awp_yes' (by simp only [go_sem, k1]; exact Is.rfl') ?_ | refine awp_no' (by simp only [go_sem, k1]; exact Is.rfl') ?_)
    (refine awp_ret ?_; show (resRd _ _ _).run _ = some _; simp only [go_sem, k1])
theorem rSame_con (env : Env) (a b : ChD) (hf : few_ch a) : Con Tryd.prog env 15 [.agg (chAV a), .agg (chAV b)] (B (a == b)) := by
  have h1 := rSameStates_con env a.states b.states (by have := hf.2.2.1.1; unfold maxLen at this; omega) hf.2.2.1.2
  have nv : a.vars.length ≤ 9223372036854775807 := by have := hf.2.1.1; unfold maxLen at this; omega
  have nt : a.trans.length ≤ 9223372036854775807 := by have := hf.2.2.2.1; unfold maxLen at this; omega
  rw [ch_eq]
  refine con_of_body Tryd.func15 rfl Tryd.call15 (by rw [Tryd.ntmps15]; simp) ?_
  rw [Tryd.ntmps15, Tryd.results15]
  cases e0 : (a.name == b.name)
  · repeat (first | refine aops_op' rfl (by simp only [go_sem, chAV, e0, bne]; exact ⟨rfl, rfl⟩) ?_ | refine g_run ?_ | refine g_off ?_ | refine aops_call' rfl (h1) (by simp only [go_sem, chAV, e0, bne]; exact Is.rfl') (by simp only [go_sem, chAV, e0, bne]; exact ⟨rfl, rfl⟩) ?_ | refine aops_nil (d_end ?_) | refine aops_nil ?_ | refine awp_seq ?_ | refine g_text ?_ | refine g_draw Tryd.mixed ?_ | refine awp_block ?_ | refine awp_skip ?_ | (refine awp_exit ?_; simp only [thenA, blockA, ↓reduceIte, Nat.reduceEqDiff, reduceCtorEq]) | refine awp_yes' (by simp only [go_sem, chAV, e0, bne]; exact Is.rfl') ?_ | refine awp_no' (by simp only [go_sem, chAV, e0, bne]; exact Is.rfl') ?_)
    (refine awp_ret ?_; show (resRd _ _ _).run _ = some _; simp only [go_sem, chAV, e0, bne])
  cases e1 : (a.initial == b.initial)
  · repeat (first | refine aops_op' rfl (by simp only [go_sem, chAV, e0, e1, bne]; exact ⟨rfl, rfl⟩) ?_ | refine g_run ?_ | refine g_off ?_ | refine aops_call' rfl (h1) (by simp only [go_sem, chAV, e0, e1, bne]; exact Is.rfl') (by simp only [go_sem, chAV, e0, e1, bne]; exact ⟨rfl, rfl⟩) ?_ | refine aops_nil (d_end ?_) | refine aops_nil ?_ | refine awp_seq ?_ | refine g_text ?_ | refine g_draw Tryd.mixed ?_ | refine awp_block ?_ | refine awp_skip ?_ | (refine awp_exit ?_; simp only [thenA, blockA, ↓reduceIte, Nat.reduceEqDiff, reduceCtorEq]) | refine awp_yes' (by simp only [go_sem, chAV, e0, e1, bne]; exact Is.rfl') ?_ | refine awp_no' (by simp only [go_sem, chAV, e0, e1, bne]; exact Is.rfl') ?_)
    (refine awp_ret ?_; show (resRd _ _ _).run _ = some _; simp only [go_sem, chAV, e0, e1, bne])
  by_cases lv : a.vars.length = b.vars.length
  case neg =>
    have k0 := ibne lv
    rw [unlike_len lv]
    repeat (first | refine aops_op' rfl (by simp only [go_sem, chAV, e0, e1, k0, bne]; exact ⟨rfl, rfl⟩) ?_ | refine g_run ?_ | refine g_off ?_ | refine aops_call' rfl (h1) (by simp only [go_sem, chAV, e0, e1, k0, bne]; exact Is.rfl') (by simp only [go_sem, chAV, e0, e1, k0, bne]; exact ⟨rfl, rfl⟩) ?_ | refine aops_nil (d_end ?_) | refine aops_nil ?_ | refine awp_seq ?_ | refine g_text ?_ | refine g_draw Tryd.mixed ?_ | refine awp_block ?_ | refine awp_skip ?_ | (refine awp_exit ?_; simp only [thenA, blockA, ↓reduceIte, Nat.reduceEqDiff, reduceCtorEq]) | refine awp_yes' (by simp only [go_sem, chAV, e0, e1, k0, bne]; exact Is.rfl') ?_ | refine awp_no' (by simp only [go_sem, chAV, e0, e1, k0, bne]; exact Is.rfl') ?_)
    (refine awp_ret ?_; show (resRd _ _ _).run _ = some _; simp only [go_sem, chAV, e0, e1, k0, bne])
  have k0 : ((a.vars.length : Int) == (b.vars.length : Int)) = true := by rw [lv]; simp
  by_cases lt : a.trans.length = b.trans.length
  case neg =>
    have k5 := ibne lt
    rw [unlike_len lt, Bool.and_false]
    repeat (first | refine aops_op' rfl (by simp only [go_sem, chAV, e0, e1, k0, k5, bne]; exact ⟨rfl, rfl⟩) ?_ | refine g_run ?_ | refine g_off ?_ | refine aops_call' rfl (h1) (by simp only [go_sem, chAV, e0, e1, k0, k5, bne]; exact Is.rfl') (by simp only [go_sem, chAV, e0, e1, k0, k5, bne]; exact ⟨rfl, rfl⟩) ?_ | refine aops_nil (d_end ?_) | refine aops_nil ?_ | refine awp_seq ?_ | refine g_text ?_ | refine g_draw Tryd.mixed ?_ | refine awp_block ?_ | refine awp_skip ?_ | (refine awp_exit ?_; simp only [thenA, blockA, ↓reduceIte, Nat.reduceEqDiff, reduceCtorEq]) | refine awp_yes' (by simp only [go_sem, chAV, e0, e1, k0, k5, bne]; exact Is.rfl') ?_ | refine awp_no' (by simp only [go_sem, chAV, e0, e1, k0, k5, bne]; exact Is.rfl') ?_)
    (refine awp_ret ?_; show (resRd _ _ _).run _ = some _; simp only [go_sem, chAV, e0, e1, k0, k5, bne])
  have k5 : ((a.trans.length : Int) == (b.trans.length : Int)) = true := by rw [lt]; simp
  cases e2 : (a.states == b.states)
  · rw [Bool.and_false, Bool.false_and]
    repeat (first | refine aops_op' rfl (by simp only [go_sem, chAV, e0, e1, k0, k5, e2, bne]; exact ⟨rfl, rfl⟩) ?_ | refine g_run ?_ | refine g_off ?_ | refine aops_call' rfl (h1) (by simp only [go_sem, chAV, e0, e1, k0, k5, e2, bne]; exact Is.rfl') (by simp only [go_sem, chAV, e0, e1, k0, k5, e2, bne]; exact ⟨rfl, rfl⟩) ?_ | refine aops_nil (d_end ?_) | refine aops_nil ?_ | refine awp_seq ?_ | refine g_text ?_ | refine g_draw Tryd.mixed ?_ | refine awp_block ?_ | refine awp_skip ?_ | (refine awp_exit ?_; simp only [thenA, blockA, ↓reduceIte, Nat.reduceEqDiff, reduceCtorEq]) | refine awp_yes' (by simp only [go_sem, chAV, e0, e1, k0, k5, e2, bne]; exact Is.rfl') ?_ | refine awp_no' (by simp only [go_sem, chAV, e0, e1, k0, k5, e2, bne]; exact Is.rfl') ?_)
    (refine awp_ret ?_; show (resRd _ _ _).run _ = some _; simp only [go_sem, chAV, e0, e1, k0, k5, e2, bne])
  repeat (first | refine aops_op' rfl (by simp only [go_sem, chAV, e0, e1, k0, k5, e2, bne]; exact ⟨rfl, rfl⟩) ?_ | refine g_run ?_ | refine g_off ?_ | refine aops_call' rfl (h1) (by simp only [go_sem, chAV, e0, e1, k0, k5, e2, bne]; exact Is.rfl') (by simp only [go_sem, chAV, e0, e1, k0, k5, e2, bne]; exact ⟨rfl, rfl⟩) ?_ | refine aops_nil (d_end ?_) | refine aops_nil ?_ | refine awp_seq ?_ | refine g_text ?_ | refine g_draw Tryd.mixed ?_ | refine awp_block ?_ | refine awp_skip ?_ | (refine awp_exit ?_; simp only [thenA, blockA, ↓reduceIte, Nat.reduceEqDiff, reduceCtorEq]) | refine awp_yes' (by simp only [go_sem, chAV, e0, e1, k0, k5, e2, bne]; exact Is.rfl') ?_ | refine awp_no' (by simp only [go_sem, chAV, e0, e1, k0, k5, e2, bne]; exact Is.rfl') ?_)
  refine awp_loopH (D := Nat) (fun i vs => [(2, .loc 2 (vs 2) 0 0), (3, .loc 3 (vs 3) 0 0), (5, I i)]) (fun _ _ => [(2, ⟨5, [chAV a], 26, false⟩), (3, ⟨5, [chAV b], 26, false⟩)]) (fun i _ _ => i ≤ a.vars.length ∧ a.vars.take i = b.vars.take i) (fun i => a.vars.length - i) 0 ?_ ?_ ?_ ?_
  · exact ⟨Nat.zero_le _, rfl⟩
  · (simp only [go_sem, chAV, e0, e1, k0, k5, e2, bne])
  · (simp only [go_sem, chAV, e0, e1, k0, k5, e2, bne])
  rintro i ws esc ⟨hi, ht⟩
  by_cases hlt : i < a.vars.length
  · obtain ⟨x, hx, hxm⟩ := some_at hlt
    obtain ⟨y, hy, hym⟩ := some_at (show i < b.vars.length by omega)
    have k1 := nlt hlt
    have k3 := nlt (show i < b.vars.length by omega)
    have k2 := wrap_succ hlt nv
    cases e : (x == y)
    · rw [unlike_at hx hy (by simpa using e)]
      have e3 : (x.name == y.name && x.start == y.start) = false := by rw [← var_eq x y]; exact e
      repeat (first | refine aops_op' rfl (by simp only [go_sem, chAV, k1, k2, k3, hx, hy, varAV, e3, bne]; exact ⟨rfl, rfl⟩) ?_ | refine g_run ?_ | refine g_off ?_ | refine aops_nil (d_end ?_) | refine aops_nil ?_ | refine awp_seq ?_ | refine g_text ?_ | refine g_draw Tryd.mixed ?_ | refine awp_block ?_ | refine awp_skip ?_ | (refine awp_exit ?_; simp only [thenA, blockA, ↓reduceIte, Nat.reduceEqDiff, reduceCtorEq]) | refine awp_yes' (by simp only [go_sem, chAV, k1, k2, k3, hx, hy, varAV, e3, bne]; exact Is.rfl') ?_ | refine awp_no' (by simp only [go_sem, chAV, k1, k2, k3, hx, hy, varAV, e3, bne]; exact Is.rfl') ?_)
      (refine awp_ret ?_; show (resRd _ _ _).run _ = some _; simp only [go_sem, chAV, k1, k2, k3, hx, hy, varAV, e3, bne])
    · have e3 : (x.name == y.name && x.start == y.start) = true := by rw [← var_eq x y]; exact e
      repeat (first | refine aops_op' rfl (by simp only [go_sem, chAV, k1, k2, k3, hx, hy, varAV, e3, bne]; exact ⟨rfl, rfl⟩) ?_ | refine g_run ?_ | refine g_off ?_ | refine aops_nil (d_end ?_) | refine aops_nil ?_ | refine awp_seq ?_ | refine g_text ?_ | refine g_draw Tryd.mixed ?_ | refine awp_block ?_ | refine awp_skip ?_ | (refine awp_exit ?_; simp only [thenA, blockA, ↓reduceIte, Nat.reduceEqDiff, reduceCtorEq]) | refine awp_yes' (by simp only [go_sem, chAV, k1, k2, k3, hx, hy, varAV, e3, bne]; exact Is.rfl') ?_ | refine awp_no' (by simp only [go_sem, chAV, k1, k2, k3, hx, hy, varAV, e3, bne]; exact Is.rfl') ?_)
      refine ⟨i + 1, ⟨hlt, take_same ht hx hy (by simpa using e)⟩, ?_, ?_, ?_⟩
      · (simp only [go_sem, chAV, k1, k2, k3, hx, hy, varAV, e3, bne])
      · (simp only [go_sem, chAV, k1, k2, k3, hx, hy, varAV, e3, bne])
      · omega
  have k1 : ¬ (i : Int) < (a.vars.length : Int) := by omega
  have ev := same_all ht (by omega) (by omega)
  rw [ev]
  repeat (first | refine aops_op' rfl (by simp only [go_sem, chAV, k1]; exact ⟨rfl, rfl⟩) ?_ | refine g_run ?_ | refine g_off ?_ | refine aops_nil (d_end ?_) | refine aops_nil ?_ | refine awp_seq ?_ | refine g_text ?_ | refine g_draw Tryd.mixed ?_ | refine awp_block ?_ | refine awp_skip ?_ | (refine awp_exit ?_; simp only [thenA, blockA, ↓reduceIte, Nat.reduceEqDiff, reduceCtorEq]) | refine awp_yes' (by simp only [go_sem, chAV, k1]; exact Is.rfl') ?_ | refine awp_no' (by simp only [go_sem, chAV, k1]; exact Is.rfl') ?_)
  refine awp_loopH (D := Nat) (fun i vs => [(2, .loc 2 (vs 2) 0 0), (3, .loc 3 (vs 3) 0 0), (6, I i)]) (fun _ _ => [(2, ⟨5, [chAV a], 26, false⟩), (3, ⟨5, [chAV b], 26, false⟩)]) (fun i _ _ => i ≤ a.trans.length ∧ a.trans.take i = b.trans.take i) (fun i => a.trans.length - i) 0 ?_ ?_ ?_ ?_
  · exact ⟨Nat.zero_le _, rfl⟩
  · (simp only [go_sem, chAV, k1])
  · (simp only [go_sem, chAV, k1])
  rintro i ws' esc' ⟨hi, ht⟩
  by_cases hlt : i < a.trans.length
  · obtain ⟨x, hx, hxm⟩ := some_at hlt
    obtain ⟨y, hy, hym⟩ := some_at (show i < b.trans.length by omega)
    have k1 := nlt hlt
    have k3 := nlt (show i < b.trans.length by omega)
    have k2 := wrap_succ hlt nt
    have fx := hf.2.2.2.2 x hxm
    have g1 := rSameOps_con env x.guard y.guard (by have := fx.2.1.1; unfold maxLen at this; omega)
    have g2 := rSameActs_con env x.acts y.acts (by have := fx.2.2.1; unfold maxLen at this; omega) fx.2.2.2
    have hno : (x == y) = false → (a.trans == b.trans) = false := fun h => unlike_at hx hy (by simpa using h)
    have hyes : (x == y) = true → a.trans.take (i + 1) = b.trans.take (i + 1) := fun h => take_same ht hx hy (by simpa using h)
    cases e0 : (x.src == y.src)
    · rw [hno (by rw [tr_eq x y]; simp [e0])]
      repeat (first | refine aops_op' rfl (by simp only [go_sem, chAV, k1, k2, k3, hx, hy, trAV, e0, bne]; exact ⟨rfl, rfl⟩) ?_ | refine g_run ?_ | refine g_off ?_ | refine aops_call' rfl (g1) (by simp only [go_sem, chAV, k1, k2, k3, hx, hy, trAV, e0, bne]; exact Is.rfl') (by simp only [go_sem, chAV, k1, k2, k3, hx, hy, trAV, e0, bne]; exact ⟨rfl, rfl⟩) ?_ | refine aops_call' rfl (g2) (by simp only [go_sem, chAV, k1, k2, k3, hx, hy, trAV, e0, bne]; exact Is.rfl') (by simp only [go_sem, chAV, k1, k2, k3, hx, hy, trAV, e0, bne]; exact ⟨rfl, rfl⟩) ?_ | refine aops_nil (d_end ?_) | refine aops_nil ?_ | refine awp_seq ?_ | refine g_text ?_ | refine g_draw Tryd.mixed ?_ | refine awp_block ?_ | refine awp_skip ?_ | (refine awp_exit ?_; simp only [thenA, blockA, ↓reduceIte, Nat.reduceEqDiff, reduceCtorEq]) | refine awp_yes' (by simp only [go_sem, chAV, k1, k2, k3, hx, hy, trAV, e0, bne]; exact Is.rfl') ?_ | refine awp_no' (by simp only [go_sem, chAV, k1, k2, k3, hx, hy, trAV, e0, bne]; exact Is.rfl') ?_)
      (refine awp_ret ?_; show (resRd _ _ _).run _ = some _; simp only [go_sem, chAV, k1, k2, k3, hx, hy, trAV, e0, bne])
    cases e1 : (x.event == y.event)
    · rw [hno (by rw [tr_eq x y]; simp [e0, e1])]
      repeat (first | refine aops_op' rfl (by simp only [go_sem, chAV, k1, k2, k3, hx, hy, trAV, e0, e1, bne]; exact ⟨rfl, rfl⟩) ?_ | refine g_run ?_ | refine g_off ?_ | refine aops_call' rfl (g1) (by simp only [go_sem, chAV, k1, k2, k3, hx, hy, trAV, e0, e1, bne]; exact Is.rfl') (by simp only [go_sem, chAV, k1, k2, k3, hx, hy, trAV, e0, e1, bne]; exact ⟨rfl, rfl⟩) ?_ | refine aops_call' rfl (g2) (by simp only [go_sem, chAV, k1, k2, k3, hx, hy, trAV, e0, e1, bne]; exact Is.rfl') (by simp only [go_sem, chAV, k1, k2, k3, hx, hy, trAV, e0, e1, bne]; exact ⟨rfl, rfl⟩) ?_ | refine aops_nil (d_end ?_) | refine aops_nil ?_ | refine awp_seq ?_ | refine g_text ?_ | refine g_draw Tryd.mixed ?_ | refine awp_block ?_ | refine awp_skip ?_ | (refine awp_exit ?_; simp only [thenA, blockA, ↓reduceIte, Nat.reduceEqDiff, reduceCtorEq]) | refine awp_yes' (by simp only [go_sem, chAV, k1, k2, k3, hx, hy, trAV, e0, e1, bne]; exact Is.rfl') ?_ | refine awp_no' (by simp only [go_sem, chAV, k1, k2, k3, hx, hy, trAV, e0, e1, bne]; exact Is.rfl') ?_)
      (refine awp_ret ?_; show (resRd _ _ _).run _ = some _; simp only [go_sem, chAV, k1, k2, k3, hx, hy, trAV, e0, e1, bne])
    cases e2 : (x.target == y.target)
    · rw [hno (by rw [tr_eq x y]; simp [e0, e1, e2])]
      repeat (first | refine aops_op' rfl (by simp only [go_sem, chAV, k1, k2, k3, hx, hy, trAV, e0, e1, e2, bne]; exact ⟨rfl, rfl⟩) ?_ | refine g_run ?_ | refine g_off ?_ | refine aops_call' rfl (g1) (by simp only [go_sem, chAV, k1, k2, k3, hx, hy, trAV, e0, e1, e2, bne]; exact Is.rfl') (by simp only [go_sem, chAV, k1, k2, k3, hx, hy, trAV, e0, e1, e2, bne]; exact ⟨rfl, rfl⟩) ?_ | refine aops_call' rfl (g2) (by simp only [go_sem, chAV, k1, k2, k3, hx, hy, trAV, e0, e1, e2, bne]; exact Is.rfl') (by simp only [go_sem, chAV, k1, k2, k3, hx, hy, trAV, e0, e1, e2, bne]; exact ⟨rfl, rfl⟩) ?_ | refine aops_nil (d_end ?_) | refine aops_nil ?_ | refine awp_seq ?_ | refine g_text ?_ | refine g_draw Tryd.mixed ?_ | refine awp_block ?_ | refine awp_skip ?_ | (refine awp_exit ?_; simp only [thenA, blockA, ↓reduceIte, Nat.reduceEqDiff, reduceCtorEq]) | refine awp_yes' (by simp only [go_sem, chAV, k1, k2, k3, hx, hy, trAV, e0, e1, e2, bne]; exact Is.rfl') ?_ | refine awp_no' (by simp only [go_sem, chAV, k1, k2, k3, hx, hy, trAV, e0, e1, e2, bne]; exact Is.rfl') ?_)
      (refine awp_ret ?_; show (resRd _ _ _).run _ = some _; simp only [go_sem, chAV, k1, k2, k3, hx, hy, trAV, e0, e1, e2, bne])
    cases e3 : (x.guard == y.guard)
    · rw [hno (by rw [tr_eq x y]; simp [e0, e1, e2, e3])]
      repeat (first | refine aops_op' rfl (by simp only [go_sem, chAV, k1, k2, k3, hx, hy, trAV, e0, e1, e2, e3, bne]; exact ⟨rfl, rfl⟩) ?_ | refine g_run ?_ | refine g_off ?_ | refine aops_call' rfl (g1) (by simp only [go_sem, chAV, k1, k2, k3, hx, hy, trAV, e0, e1, e2, e3, bne]; exact Is.rfl') (by simp only [go_sem, chAV, k1, k2, k3, hx, hy, trAV, e0, e1, e2, e3, bne]; exact ⟨rfl, rfl⟩) ?_ | refine aops_call' rfl (g2) (by simp only [go_sem, chAV, k1, k2, k3, hx, hy, trAV, e0, e1, e2, e3, bne]; exact Is.rfl') (by simp only [go_sem, chAV, k1, k2, k3, hx, hy, trAV, e0, e1, e2, e3, bne]; exact ⟨rfl, rfl⟩) ?_ | refine aops_nil (d_end ?_) | refine aops_nil ?_ | refine awp_seq ?_ | refine g_text ?_ | refine g_draw Tryd.mixed ?_ | refine awp_block ?_ | refine awp_skip ?_ | (refine awp_exit ?_; simp only [thenA, blockA, ↓reduceIte, Nat.reduceEqDiff, reduceCtorEq]) | refine awp_yes' (by simp only [go_sem, chAV, k1, k2, k3, hx, hy, trAV, e0, e1, e2, e3, bne]; exact Is.rfl') ?_ | refine awp_no' (by simp only [go_sem, chAV, k1, k2, k3, hx, hy, trAV, e0, e1, e2, e3, bne]; exact Is.rfl') ?_)
      (refine awp_ret ?_; show (resRd _ _ _).run _ = some _; simp only [go_sem, chAV, k1, k2, k3, hx, hy, trAV, e0, e1, e2, e3, bne])
    cases e4 : (x.acts == y.acts)
    · rw [hno (by rw [tr_eq x y]; simp [e0, e1, e2, e3, e4])]
      repeat (first | refine aops_op' rfl (by simp only [go_sem, chAV, k1, k2, k3, hx, hy, trAV, e0, e1, e2, e3, e4, bne]; exact ⟨rfl, rfl⟩) ?_ | refine g_run ?_ | refine g_off ?_ | refine aops_call' rfl (g1) (by simp only [go_sem, chAV, k1, k2, k3, hx, hy, trAV, e0, e1, e2, e3, e4, bne]; exact Is.rfl') (by simp only [go_sem, chAV, k1, k2, k3, hx, hy, trAV, e0, e1, e2, e3, e4, bne]; exact ⟨rfl, rfl⟩) ?_ | refine aops_call' rfl (g2) (by simp only [go_sem, chAV, k1, k2, k3, hx, hy, trAV, e0, e1, e2, e3, e4, bne]; exact Is.rfl') (by simp only [go_sem, chAV, k1, k2, k3, hx, hy, trAV, e0, e1, e2, e3, e4, bne]; exact ⟨rfl, rfl⟩) ?_ | refine aops_nil (d_end ?_) | refine aops_nil ?_ | refine awp_seq ?_ | refine g_text ?_ | refine g_draw Tryd.mixed ?_ | refine awp_block ?_ | refine awp_skip ?_ | (refine awp_exit ?_; simp only [thenA, blockA, ↓reduceIte, Nat.reduceEqDiff, reduceCtorEq]) | refine awp_yes' (by simp only [go_sem, chAV, k1, k2, k3, hx, hy, trAV, e0, e1, e2, e3, e4, bne]; exact Is.rfl') ?_ | refine awp_no' (by simp only [go_sem, chAV, k1, k2, k3, hx, hy, trAV, e0, e1, e2, e3, e4, bne]; exact Is.rfl') ?_)
      (refine awp_ret ?_; show (resRd _ _ _).run _ = some _; simp only [go_sem, chAV, k1, k2, k3, hx, hy, trAV, e0, e1, e2, e3, e4, bne])
    repeat (first | refine aops_op' rfl (by simp only [go_sem, chAV, k1, k2, k3, hx, hy, trAV, e0, e1, e2, e3, e4, bne]; exact ⟨rfl, rfl⟩) ?_ | refine g_run ?_ | refine g_off ?_ | refine aops_call' rfl (g1) (by simp only [go_sem, chAV, k1, k2, k3, hx, hy, trAV, e0, e1, e2, e3, e4, bne]; exact Is.rfl') (by simp only [go_sem, chAV, k1, k2, k3, hx, hy, trAV, e0, e1, e2, e3, e4, bne]; exact ⟨rfl, rfl⟩) ?_ | refine aops_call' rfl (g2) (by simp only [go_sem, chAV, k1, k2, k3, hx, hy, trAV, e0, e1, e2, e3, e4, bne]; exact Is.rfl') (by simp only [go_sem, chAV, k1, k2, k3, hx, hy, trAV, e0, e1, e2, e3, e4, bne]; exact ⟨rfl, rfl⟩) ?_ | refine aops_nil (d_end ?_) | refine aops_nil ?_ | refine awp_seq ?_ | refine g_text ?_ | refine g_draw Tryd.mixed ?_ | refine awp_block ?_ | refine awp_skip ?_ | (refine awp_exit ?_; simp only [thenA, blockA, ↓reduceIte, Nat.reduceEqDiff, reduceCtorEq]) | refine awp_yes' (by simp only [go_sem, chAV, k1, k2, k3, hx, hy, trAV, e0, e1, e2, e3, e4, bne]; exact Is.rfl') ?_ | refine awp_no' (by simp only [go_sem, chAV, k1, k2, k3, hx, hy, trAV, e0, e1, e2, e3, e4, bne]; exact Is.rfl') ?_)
    refine ⟨i + 1, ⟨hlt, hyes (by rw [tr_eq x y]; simp [e0, e1, e2, e3, e4])⟩, ?_, ?_, ?_⟩
    · (simp only [go_sem, chAV, k1, k2, k3, hx, hy, trAV, e0, e1, e2, e3, e4, bne])
    · (simp only [go_sem, chAV, k1, k2, k3, hx, hy, trAV, e0, e1, e2, e3, e4, bne])
    · omega
  have k1 : ¬ (i : Int) < (a.trans.length : Int) := by omega
  rw [same_all ht (by omega) (by omega)]
  repeat (first | refine aops_op' rfl (by simp only [go_sem, chAV, k1]; exact ⟨rfl, rfl⟩) ?_ | refine g_run ?_ | refine g_off ?_ | refine aops_nil (d_end ?_) | refine aops_nil ?_ | refine awp_seq ?_ | refine g_text ?_ | refine g_draw Tryd.mixed ?_ | refine awp_block ?_ | refine awp_skip ?_ | (refine awp_exit ?_; simp only [thenA, blockA, ↓reduceIte, Nat.reduceEqDiff, reduceCtorEq]) | refine awp_yes' (by simp only [go_sem, chAV, k1]; exact Is.rfl') ?_ | refine awp_no' (by simp only [go_sem, chAV, k1]; exact Is.rfl') ?_)
  (refine awp_ret ?_; show (resRd _ _ _).run _ = some _; simp only [go_sem, chAV, k1])
end Go.Proofs.YtaggnpieofpphaaDoor
