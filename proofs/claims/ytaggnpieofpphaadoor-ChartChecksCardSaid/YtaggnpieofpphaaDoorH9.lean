/- Contracts of what says whether charts are the same: by the walk without memory. -/
import Derived.Test.YtaggnpieofpphaaDoorH2
import Derived.Test.YtaggnpieofpphaaDoorHS
set_option linter.unusedSimpArgs false
namespace Go.Proofs.YtaggnpieofpphaaDoor
open Go.RowKit
set_option maxRecDepth 100000
set_option maxHeartbeats 8000000
attribute [local go_sem_proc] reduceIte reduceCtorEq Nat.reduceAdd Nat.reduceSub Nat.reduceEqDiff Nat.reduceLT Nat.reduceLeDiff Nat.reduceMul Int.reduceToNat Int.reduceBEq Int.reduceBNe Int.reduceEq Int.reduceLT Int.reduceLE
attribute [local go_sem] resRd resOne resAll HoldF HoldR Takes thenA blockA ev_move ev_assign ev_pick ev_alloc ev_box ev_build ev_buildSlice ev_load ev_store ev_binOp ev_unOp ev_convert ev_iface ev_make ev_slice ev_fieldAddr ev_field ev_indexAddr ev_index ev_extract ev_len ev_append ev_min ev_max evMin evMax gt_tmp gt_int gt_bool gt_str gt_nilS gt_nilP gt_nilI pickRd allocRd buildRd sliceRd loadRd unRd ifaceRd exRd val optRd callRd seen AV.plain adopt fzArgs Rd.run AV.asCells newBox runL Comes' Rd.row Rd.bind Out.app apps Eff.app St.renew St.setRow St.show St.put St.init upd evStore evBin eqFs eqCell evConv evSeq evLen evIndexAddr evFieldAddr evField evIndex bound evSlice evAppend evMake loadOf fillAV fillEs fzParts fz fzCell fzCells shows isConstOp splice wrs wes Value.oneCell' List.getD_cons_zero List.getD_cons_succ List.getD_nil List.length_cons List.length_nil List.map_cons List.map_nil List.nil_append List.cons_append List.all_cons List.all_nil List.getElem?_cons_zero List.getElem?_cons_succ List.set_cons_zero List.set_cons_succ List.take_succ_cons List.take_zero List.drop_succ_cons List.drop_zero List.take_nil List.drop_nil List.replicate_succ List.replicate_zero Bool.and_true Bool.true_and Bool.and_self and_self true_and and_true Nat.zero_add Nat.add_zero Option.some.injEq Nat.zero_lt_succ Bool.not_true Bool.not_false ne_eq not_true_eq_false not_false_eq_true Option.map_some Option.map_none List.toList_toArray head headF headR List.length_map Int.toNat_natCast Int.natCast_nonneg List.getElem?_map decide_true decide_false Bool.false_eq_true if_true if_false Bool.or_self Bool.or_true Bool.true_or Bool.false_or Bool.or_false Bool.and_false Bool.false_and List.flatten_cons List.flatten_nil List.append_nil nat0 or_self or_false false_or or_true true_or and_false false_and List.length_append List.isEmpty_nil bne_self_eq_false beq_self_eq_true fits_small strL_l bytesOf_map wants Int.cast_ofNat_Int gt_iff_lt ge_iff_le
attribute [local go_sem ←] List.map_drop List.map_take

abbrev fnV (g : Nat) : AV := .lit (.func (.func g) #[] #[])

theorem eqOps_con (env : Env) (a b : List OpD) (hn : a.length ≤ 9223372036854775807) : Con Tryd.prog env 71 [opsAV a, opsAV b] (B (a == b)) := by
  refine con_of_body Tryd.func71 rfl Tryd.call71 (by rw [Tryd.ntmps71]; simp) ?_
  rw [Tryd.ntmps71, Tryd.results71]
  by_cases hl : a.length = b.length
  case neg =>
    have k0 := ibne hl
    rw [unlike_len hl]
    repeat (first | refine aops_op' rfl (by simp only [go_sem, k0, bne]; exact ⟨rfl, rfl⟩) ?_ | refine g_run ?_ | refine g_off ?_ | refine aops_nil (d_end ?_) | refine aops_nil ?_ | refine awp_seq ?_ | refine g_text ?_ | refine g_draw Tryd.mixed ?_ | refine awp_block ?_ | refine awp_skip ?_ | (refine awp_exit ?_; simp only [thenA, blockA, ↓reduceIte, Nat.reduceEqDiff, reduceCtorEq]) | refine awp_yes' (by simp only [go_sem, k0, bne]; exact Is.rfl') ?_ | refine awp_no' (by simp only [go_sem, k0, bne]; exact Is.rfl') ?_)
    (refine awp_ret ?_; show (resRd _ _ _).run _ = some _; simp only [go_sem, k0, bne])
  have k0 : ((a.length : Int) == (b.length : Int)) = true := by rw [hl]; simp
  repeat (first | refine aops_op' rfl (by simp only [go_sem, k0, bne]; exact ⟨rfl, rfl⟩) ?_ | refine g_run ?_ | refine g_off ?_ | refine aops_nil (d_end ?_) | refine aops_nil ?_ | refine awp_seq ?_ | refine g_text ?_ | refine g_draw Tryd.mixed ?_ | refine awp_block ?_ | refine awp_skip ?_ | (refine awp_exit ?_; simp only [thenA, blockA, ↓reduceIte, Nat.reduceEqDiff, reduceCtorEq]) | refine awp_yes' (by simp only [go_sem, k0, bne]; exact Is.rfl') ?_ | refine awp_no' (by simp only [go_sem, k0, bne]; exact Is.rfl') ?_)
  refine awp_loopH (D := Nat) (fun i _ => [(0, opsAV a), (1, opsAV b), (12, I a.length), (13, I i)]) (fun _ _ => []) (fun i _ _ => i ≤ a.length ∧ a.take i = b.take i) (fun i => a.length - i) 0 ?_ ?_ ?_ ?_
  · exact ⟨Nat.zero_le _, rfl⟩
  · (simp only [go_sem, k0, bne])
  · (simp only [go_sem, k0, bne])
  rintro i ws esc ⟨hi, ht⟩
  by_cases hlt : i < a.length
  · obtain ⟨x, hx, _⟩ := some_at hlt
    obtain ⟨y, hy, _⟩ := some_at (show i < b.length by omega)
    have k1 := nlt hlt
    have k3 := nlt (show i < b.length by omega)
    have k2 := wrap_succ hlt hn
    cases e : (x == y)
    · rw [unlike_at hx hy (by simpa using e)]
      have e2 : (x.kind == y.kind && x.n == y.n) = false := by rw [← op_eq x y]; exact e
      repeat (first | refine aops_op' rfl (by simp only [go_sem, k1, k2, k3, hx, hy, opAV, e2, bne]; exact ⟨rfl, rfl⟩) ?_ | refine g_run ?_ | refine g_off ?_ | refine aops_nil (d_end ?_) | refine aops_nil ?_ | refine awp_seq ?_ | refine g_text ?_ | refine g_draw Tryd.mixed ?_ | refine awp_block ?_ | refine awp_skip ?_ | (refine awp_exit ?_; simp only [thenA, blockA, ↓reduceIte, Nat.reduceEqDiff, reduceCtorEq]) | refine awp_yes' (by simp only [go_sem, k1, k2, k3, hx, hy, opAV, e2, bne]; exact Is.rfl') ?_ | refine awp_no' (by simp only [go_sem, k1, k2, k3, hx, hy, opAV, e2, bne]; exact Is.rfl') ?_)
      (refine awp_ret ?_; show (resRd _ _ _).run _ = some _; simp only [go_sem, k1, k2, k3, hx, hy, opAV, e2, bne])
    · have e2 : (x.kind == y.kind && x.n == y.n) = true := by rw [← op_eq x y]; exact e
      repeat (first | refine aops_op' rfl (by simp only [go_sem, k1, k2, k3, hx, hy, opAV, e2, bne]; exact ⟨rfl, rfl⟩) ?_ | refine g_run ?_ | refine g_off ?_ | refine aops_nil (d_end ?_) | refine aops_nil ?_ | refine awp_seq ?_ | refine g_text ?_ | refine g_draw Tryd.mixed ?_ | refine awp_block ?_ | refine awp_skip ?_ | (refine awp_exit ?_; simp only [thenA, blockA, ↓reduceIte, Nat.reduceEqDiff, reduceCtorEq]) | refine awp_yes' (by simp only [go_sem, k1, k2, k3, hx, hy, opAV, e2, bne]; exact Is.rfl') ?_ | refine awp_no' (by simp only [go_sem, k1, k2, k3, hx, hy, opAV, e2, bne]; exact Is.rfl') ?_)
      refine ⟨i + 1, ⟨hlt, take_same ht hx hy (by simpa using e)⟩, ?_, ?_, ?_⟩
      · (simp only [go_sem, k1, k2, k3, hx, hy, opAV, e2, bne])
      · (simp only [go_sem, k1, k2, k3, hx, hy, opAV, e2, bne])
      · omega
  · have k1 : ¬ (i : Int) < (a.length : Int) := by omega
    rw [same_all ht (by omega) (by omega)]
    repeat (first | refine aops_op' rfl (by simp only [go_sem, k1]; exact ⟨rfl, rfl⟩) ?_ | refine g_run ?_ | refine g_off ?_ | refine aops_nil (d_end ?_) | refine aops_nil ?_ | refine awp_seq ?_ | refine g_text ?_ | refine g_draw Tryd.mixed ?_ | refine awp_block ?_ | refine awp_skip ?_ | (refine awp_exit ?_; simp only [thenA, blockA, ↓reduceIte, Nat.reduceEqDiff, reduceCtorEq]) | refine awp_yes' (by simp only [go_sem, k1]; exact Is.rfl') ?_ | refine awp_no' (by simp only [go_sem, k1]; exact Is.rfl') ?_)
    (refine awp_ret ?_; show (resRd _ _ _).run _ = some _; simp only [go_sem, k1])

theorem eqVars_con (env : Env) (a b : List VarD) (hn : a.length ≤ 9223372036854775807) : Con Tryd.prog env 42 [varsAV a, varsAV b] (B (a == b)) := by
  refine con_of_body Tryd.func42 rfl Tryd.call42 (by rw [Tryd.ntmps42]; simp) ?_
  rw [Tryd.ntmps42, Tryd.results42]
  by_cases hl : a.length = b.length
  case neg =>
    have k0 := ibne hl
    rw [unlike_len hl]
    repeat (first | refine aops_op' rfl (by simp only [go_sem, k0, bne]; exact ⟨rfl, rfl⟩) ?_ | refine g_run ?_ | refine g_off ?_ | refine aops_nil (d_end ?_) | refine aops_nil ?_ | refine awp_seq ?_ | refine g_text ?_ | refine g_draw Tryd.mixed ?_ | refine awp_block ?_ | refine awp_skip ?_ | (refine awp_exit ?_; simp only [thenA, blockA, ↓reduceIte, Nat.reduceEqDiff, reduceCtorEq]) | refine awp_yes' (by simp only [go_sem, k0, bne]; exact Is.rfl') ?_ | refine awp_no' (by simp only [go_sem, k0, bne]; exact Is.rfl') ?_)
    (refine awp_ret ?_; show (resRd _ _ _).run _ = some _; simp only [go_sem, k0, bne])
  have k0 : ((a.length : Int) == (b.length : Int)) = true := by rw [hl]; simp
  repeat (first | refine aops_op' rfl (by simp only [go_sem, k0, bne]; exact ⟨rfl, rfl⟩) ?_ | refine g_run ?_ | refine g_off ?_ | refine aops_nil (d_end ?_) | refine aops_nil ?_ | refine awp_seq ?_ | refine g_text ?_ | refine g_draw Tryd.mixed ?_ | refine awp_block ?_ | refine awp_skip ?_ | (refine awp_exit ?_; simp only [thenA, blockA, ↓reduceIte, Nat.reduceEqDiff, reduceCtorEq]) | refine awp_yes' (by simp only [go_sem, k0, bne]; exact Is.rfl') ?_ | refine awp_no' (by simp only [go_sem, k0, bne]; exact Is.rfl') ?_)
  refine awp_loopH (D := Nat) (fun i _ => [(0, varsAV a), (1, varsAV b), (12, I a.length), (13, I i)]) (fun _ _ => []) (fun i _ _ => i ≤ a.length ∧ a.take i = b.take i) (fun i => a.length - i) 0 ?_ ?_ ?_ ?_
  · exact ⟨Nat.zero_le _, rfl⟩
  · (simp only [go_sem, k0, bne])
  · (simp only [go_sem, k0, bne])
  rintro i ws esc ⟨hi, ht⟩
  by_cases hlt : i < a.length
  · obtain ⟨x, hx, _⟩ := some_at hlt
    obtain ⟨y, hy, _⟩ := some_at (show i < b.length by omega)
    have k1 := nlt hlt
    have k3 := nlt (show i < b.length by omega)
    have k2 := wrap_succ hlt hn
    cases e : (x == y)
    · rw [unlike_at hx hy (by simpa using e)]
      have e2 : (x.name == y.name && x.start == y.start) = false := by rw [← var_eq x y]; exact e
      repeat (first | refine aops_op' rfl (by simp only [go_sem, k1, k2, k3, hx, hy, varAV, e2, bne]; exact ⟨rfl, rfl⟩) ?_ | refine g_run ?_ | refine g_off ?_ | refine aops_nil (d_end ?_) | refine aops_nil ?_ | refine awp_seq ?_ | refine g_text ?_ | refine g_draw Tryd.mixed ?_ | refine awp_block ?_ | refine awp_skip ?_ | (refine awp_exit ?_; simp only [thenA, blockA, ↓reduceIte, Nat.reduceEqDiff, reduceCtorEq]) | refine awp_yes' (by simp only [go_sem, k1, k2, k3, hx, hy, varAV, e2, bne]; exact Is.rfl') ?_ | refine awp_no' (by simp only [go_sem, k1, k2, k3, hx, hy, varAV, e2, bne]; exact Is.rfl') ?_)
      (refine awp_ret ?_; show (resRd _ _ _).run _ = some _; simp only [go_sem, k1, k2, k3, hx, hy, varAV, e2, bne])
    · have e2 : (x.name == y.name && x.start == y.start) = true := by rw [← var_eq x y]; exact e
      repeat (first | refine aops_op' rfl (by simp only [go_sem, k1, k2, k3, hx, hy, varAV, e2, bne]; exact ⟨rfl, rfl⟩) ?_ | refine g_run ?_ | refine g_off ?_ | refine aops_nil (d_end ?_) | refine aops_nil ?_ | refine awp_seq ?_ | refine g_text ?_ | refine g_draw Tryd.mixed ?_ | refine awp_block ?_ | refine awp_skip ?_ | (refine awp_exit ?_; simp only [thenA, blockA, ↓reduceIte, Nat.reduceEqDiff, reduceCtorEq]) | refine awp_yes' (by simp only [go_sem, k1, k2, k3, hx, hy, varAV, e2, bne]; exact Is.rfl') ?_ | refine awp_no' (by simp only [go_sem, k1, k2, k3, hx, hy, varAV, e2, bne]; exact Is.rfl') ?_)
      refine ⟨i + 1, ⟨hlt, take_same ht hx hy (by simpa using e)⟩, ?_, ?_, ?_⟩
      · (simp only [go_sem, k1, k2, k3, hx, hy, varAV, e2, bne])
      · (simp only [go_sem, k1, k2, k3, hx, hy, varAV, e2, bne])
      · omega
  · have k1 : ¬ (i : Int) < (a.length : Int) := by omega
    rw [same_all ht (by omega) (by omega)]
    repeat (first | refine aops_op' rfl (by simp only [go_sem, k1]; exact ⟨rfl, rfl⟩) ?_ | refine g_run ?_ | refine g_off ?_ | refine aops_nil (d_end ?_) | refine aops_nil ?_ | refine awp_seq ?_ | refine g_text ?_ | refine g_draw Tryd.mixed ?_ | refine awp_block ?_ | refine awp_skip ?_ | (refine awp_exit ?_; simp only [thenA, blockA, ↓reduceIte, Nat.reduceEqDiff, reduceCtorEq]) | refine awp_yes' (by simp only [go_sem, k1]; exact Is.rfl') ?_ | refine awp_no' (by simp only [go_sem, k1]; exact Is.rfl') ?_)
    (refine awp_ret ?_; show (resRd _ _ _).run _ = some _; simp only [go_sem, k1])

theorem rSameOps_con (env : Env) (a b : List OpD) (hn : a.length ≤ 9223372036854775807) : Con Tryd.prog env 40 [opsAV a, opsAV b] (B (a == b)) := by
  refine con_of_body Tryd.func40 rfl Tryd.call40 (by rw [Tryd.ntmps40]; simp) ?_
  rw [Tryd.ntmps40, Tryd.results40]
  by_cases hl : a.length = b.length
  case neg =>
    have k0 := ibne hl
    rw [unlike_len hl]
    repeat (first | refine aops_op' rfl (by simp only [go_sem, k0, bne]; exact ⟨rfl, rfl⟩) ?_ | refine g_run ?_ | refine g_off ?_ | refine aops_nil (d_end ?_) | refine aops_nil ?_ | refine awp_seq ?_ | refine g_text ?_ | refine g_draw Tryd.mixed ?_ | refine awp_block ?_ | refine awp_skip ?_ | (refine awp_exit ?_; simp only [thenA, blockA, ↓reduceIte, Nat.reduceEqDiff, reduceCtorEq]) | refine awp_yes' (by simp only [go_sem, k0, bne]; exact Is.rfl') ?_ | refine awp_no' (by simp only [go_sem, k0, bne]; exact Is.rfl') ?_)
    (refine awp_ret ?_; show (resRd _ _ _).run _ = some _; simp only [go_sem, k0, bne])
  have k0 : ((a.length : Int) == (b.length : Int)) = true := by rw [hl]; simp
  repeat (first | refine aops_op' rfl (by simp only [go_sem, k0, bne]; exact ⟨rfl, rfl⟩) ?_ | refine g_run ?_ | refine g_off ?_ | refine aops_nil (d_end ?_) | refine aops_nil ?_ | refine awp_seq ?_ | refine g_text ?_ | refine g_draw Tryd.mixed ?_ | refine awp_block ?_ | refine awp_skip ?_ | (refine awp_exit ?_; simp only [thenA, blockA, ↓reduceIte, Nat.reduceEqDiff, reduceCtorEq]) | refine awp_yes' (by simp only [go_sem, k0, bne]; exact Is.rfl') ?_ | refine awp_no' (by simp only [go_sem, k0, bne]; exact Is.rfl') ?_)
  refine awp_loopH (D := Nat) (fun i _ => [(0, opsAV a), (1, opsAV b), (5, I i)]) (fun _ _ => []) (fun i _ _ => i ≤ a.length ∧ a.take i = b.take i) (fun i => a.length - i) 0 ?_ ?_ ?_ ?_
  · exact ⟨Nat.zero_le _, rfl⟩
  · (simp only [go_sem, k0, bne])
  · (simp only [go_sem, k0, bne])
  rintro i ws esc ⟨hi, ht⟩
  by_cases hlt : i < a.length
  · obtain ⟨x, hx, _⟩ := some_at hlt
    obtain ⟨y, hy, _⟩ := some_at (show i < b.length by omega)
    have k1 := nlt hlt
    have k3 := nlt (show i < b.length by omega)
    have k2 := wrap_succ hlt hn
    cases e : (x == y)
    · rw [unlike_at hx hy (by simpa using e)]
      have e2 : (x.kind == y.kind && x.n == y.n) = false := by rw [← op_eq x y]; exact e
      repeat (first | refine aops_op' rfl (by simp only [go_sem, k1, k2, k3, hx, hy, opAV, e2, bne]; exact ⟨rfl, rfl⟩) ?_ | refine g_run ?_ | refine g_off ?_ | refine aops_nil (d_end ?_) | refine aops_nil ?_ | refine awp_seq ?_ | refine g_text ?_ | refine g_draw Tryd.mixed ?_ | refine awp_block ?_ | refine awp_skip ?_ | (refine awp_exit ?_; simp only [thenA, blockA, ↓reduceIte, Nat.reduceEqDiff, reduceCtorEq]) | refine awp_yes' (by simp only [go_sem, k1, k2, k3, hx, hy, opAV, e2, bne]; exact Is.rfl') ?_ | refine awp_no' (by simp only [go_sem, k1, k2, k3, hx, hy, opAV, e2, bne]; exact Is.rfl') ?_)
      (refine awp_ret ?_; show (resRd _ _ _).run _ = some _; simp only [go_sem, k1, k2, k3, hx, hy, opAV, e2, bne])
    · have e2 : (x.kind == y.kind && x.n == y.n) = true := by rw [← op_eq x y]; exact e
      repeat (first | refine aops_op' rfl (by simp only [go_sem, k1, k2, k3, hx, hy, opAV, e2, bne]; exact ⟨rfl, rfl⟩) ?_ | refine g_run ?_ | refine g_off ?_ | refine aops_nil (d_end ?_) | refine aops_nil ?_ | refine awp_seq ?_ | refine g_text ?_ | refine g_draw Tryd.mixed ?_ | refine awp_block ?_ | refine awp_skip ?_ | (refine awp_exit ?_; simp only [thenA, blockA, ↓reduceIte, Nat.reduceEqDiff, reduceCtorEq]) | refine awp_yes' (by simp only [go_sem, k1, k2, k3, hx, hy, opAV, e2, bne]; exact Is.rfl') ?_ | refine awp_no' (by simp only [go_sem, k1, k2, k3, hx, hy, opAV, e2, bne]; exact Is.rfl') ?_)
      refine ⟨i + 1, ⟨hlt, take_same ht hx hy (by simpa using e)⟩, ?_, ?_, ?_⟩
      · (simp only [go_sem, k1, k2, k3, hx, hy, opAV, e2, bne])
      · (simp only [go_sem, k1, k2, k3, hx, hy, opAV, e2, bne])
      · omega
  · have k1 : ¬ (i : Int) < (a.length : Int) := by omega
    rw [same_all ht (by omega) (by omega)]
    repeat (first | refine aops_op' rfl (by simp only [go_sem, k1]; exact ⟨rfl, rfl⟩) ?_ | refine g_run ?_ | refine g_off ?_ | refine aops_nil (d_end ?_) | refine aops_nil ?_ | refine awp_seq ?_ | refine g_text ?_ | refine g_draw Tryd.mixed ?_ | refine awp_block ?_ | refine awp_skip ?_ | (refine awp_exit ?_; simp only [thenA, blockA, ↓reduceIte, Nat.reduceEqDiff, reduceCtorEq]) | refine awp_yes' (by simp only [go_sem, k1]; exact Is.rfl') ?_ | refine awp_no' (by simp only [go_sem, k1]; exact Is.rfl') ?_)
    (refine awp_ret ?_; show (resRd _ _ _).run _ = some _; simp only [go_sem, k1])

theorem efAct_con (env : Env) (g : Nat) (a b : List ActD) (hn : a.length ≤ 9223372036854775807) (hg : ∀ x ∈ a, ∀ y ∈ b, Con Tryd.prog env g [.agg (actAV x), .agg (actAV y)] (B (x == y))) : Con Tryd.prog env 69 [actsAV a, actsAV b, fnV g] (B (a == b)) := by
  refine con_of_body Tryd.func69 rfl Tryd.call69 (by rw [Tryd.ntmps69]; simp) ?_
  rw [Tryd.ntmps69, Tryd.results69]
  by_cases hl : a.length = b.length
  case neg =>
    have k0 := ibne hl
    rw [unlike_len hl]
    repeat (first | refine aops_op' rfl (by simp only [go_sem, k0, bne]; exact ⟨rfl, rfl⟩) ?_ | refine g_run ?_ | refine g_off ?_ | refine aops_nil (d_end ?_) | refine aops_nil ?_ | refine awp_seq ?_ | refine g_text ?_ | refine g_draw Tryd.mixed ?_ | refine awp_block ?_ | refine awp_skip ?_ | (refine awp_exit ?_; simp only [thenA, blockA, ↓reduceIte, Nat.reduceEqDiff, reduceCtorEq]) | refine awp_yes' (by simp only [go_sem, k0, bne]; exact Is.rfl') ?_ | refine awp_no' (by simp only [go_sem, k0, bne]; exact Is.rfl') ?_)
    (refine awp_ret ?_; show (resRd _ _ _).run _ = some _; simp only [go_sem, k0, bne])
  have k0 : ((a.length : Int) == (b.length : Int)) = true := by rw [hl]; simp
  repeat (first | refine aops_op' rfl (by simp only [go_sem, k0, bne]; exact ⟨rfl, rfl⟩) ?_ | refine g_run ?_ | refine g_off ?_ | refine aops_nil (d_end ?_) | refine aops_nil ?_ | refine awp_seq ?_ | refine g_text ?_ | refine g_draw Tryd.mixed ?_ | refine awp_block ?_ | refine awp_skip ?_ | (refine awp_exit ?_; simp only [thenA, blockA, ↓reduceIte, Nat.reduceEqDiff, reduceCtorEq]) | refine awp_yes' (by simp only [go_sem, k0, bne]; exact Is.rfl') ?_ | refine awp_no' (by simp only [go_sem, k0, bne]; exact Is.rfl') ?_)
  refine awp_loopH (D := Nat) (fun i _ => [(1, actsAV b), (2, fnV g), (15, actsAV a), (16, I a.length), (17, I i)]) (fun _ _ => []) (fun i _ _ => i ≤ a.length ∧ a.take i = b.take i) (fun i => a.length - i) 0 ?_ ?_ ?_ ?_
  · exact ⟨Nat.zero_le _, rfl⟩
  · (simp only [go_sem, k0, bne])
  · (simp only [go_sem, k0, bne])
  rintro i ws esc ⟨hi, ht⟩
  by_cases hlt : i < a.length
  · obtain ⟨x, hx, hxm⟩ := some_at hlt
    obtain ⟨y, hy, hym⟩ := some_at (show i < b.length by omega)
    have hc := hg x hxm y hym
    have k1 := nlt hlt
    have k3 := nlt (show i < b.length by omega)
    have k2 := wrap_succ hlt hn
    cases e : (x == y)
    · rw [unlike_at hx hy (by simpa using e)]
      repeat (first | refine aops_op' rfl (by simp only [go_sem, k1, k2, k3, hx, hy, actAV, e]; exact ⟨rfl, rfl⟩) ?_ | refine g_run ?_ | refine g_off ?_ | refine aops_nil (d_end ?_) | refine aops_nil ?_ | refine awp_seq ?_ | refine g_text ?_ | refine g_draw Tryd.mixed ?_ | refine awp_block ?_ | refine awp_skip ?_ | (refine awp_exit ?_; simp only [thenA, blockA, ↓reduceIte, Nat.reduceEqDiff, reduceCtorEq]) | refine awp_yes' (by simp only [go_sem, k1, k2, k3, hx, hy, actAV, e]; exact Is.rfl') ?_ | refine awp_no' (by simp only [go_sem, k1, k2, k3, hx, hy, actAV, e]; exact Is.rfl') ?_)
      refine aops_call' (callOf_tmp rfl (by simp only [go_sem, k1, k2, k3, hx, hy, actAV, e]; exact Is.rfl')) (hc) (by simp only [go_sem, k1, k2, k3, hx, hy, actAV, e]; exact Is.rfl') (by simp only [go_sem, k1, k2, k3, hx, hy, actAV, e]; exact ⟨rfl, rfl⟩) ?_
      repeat (first | refine aops_op' rfl (by simp only [go_sem, k1, k2, k3, hx, hy, actAV, e]; exact ⟨rfl, rfl⟩) ?_ | refine g_run ?_ | refine g_off ?_ | refine aops_nil (d_end ?_) | refine aops_nil ?_ | refine awp_seq ?_ | refine g_text ?_ | refine g_draw Tryd.mixed ?_ | refine awp_block ?_ | refine awp_skip ?_ | (refine awp_exit ?_; simp only [thenA, blockA, ↓reduceIte, Nat.reduceEqDiff, reduceCtorEq]) | refine awp_yes' (by simp only [go_sem, k1, k2, k3, hx, hy, actAV, e]; exact Is.rfl') ?_ | refine awp_no' (by simp only [go_sem, k1, k2, k3, hx, hy, actAV, e]; exact Is.rfl') ?_)
      (refine awp_ret ?_; show (resRd _ _ _).run _ = some _; simp only [go_sem, k1, k2, k3, hx, hy, actAV, e])
    · repeat (first | refine aops_op' rfl (by simp only [go_sem, k1, k2, k3, hx, hy, actAV, e]; exact ⟨rfl, rfl⟩) ?_ | refine g_run ?_ | refine g_off ?_ | refine aops_nil (d_end ?_) | refine aops_nil ?_ | refine awp_seq ?_ | refine g_text ?_ | refine g_draw Tryd.mixed ?_ | refine awp_block ?_ | refine awp_skip ?_ | (refine awp_exit ?_; simp only [thenA, blockA, ↓reduceIte, Nat.reduceEqDiff, reduceCtorEq]) | refine awp_yes' (by simp only [go_sem, k1, k2, k3, hx, hy, actAV, e]; exact Is.rfl') ?_ | refine awp_no' (by simp only [go_sem, k1, k2, k3, hx, hy, actAV, e]; exact Is.rfl') ?_)
      refine aops_call' (callOf_tmp rfl (by simp only [go_sem, k1, k2, k3, hx, hy, actAV, e]; exact Is.rfl')) (hc) (by simp only [go_sem, k1, k2, k3, hx, hy, actAV, e]; exact Is.rfl') (by simp only [go_sem, k1, k2, k3, hx, hy, actAV, e]; exact ⟨rfl, rfl⟩) ?_
      repeat (first | refine aops_op' rfl (by simp only [go_sem, k1, k2, k3, hx, hy, actAV, e]; exact ⟨rfl, rfl⟩) ?_ | refine g_run ?_ | refine g_off ?_ | refine aops_nil (d_end ?_) | refine aops_nil ?_ | refine awp_seq ?_ | refine g_text ?_ | refine g_draw Tryd.mixed ?_ | refine awp_block ?_ | refine awp_skip ?_ | (refine awp_exit ?_; simp only [thenA, blockA, ↓reduceIte, Nat.reduceEqDiff, reduceCtorEq]) | refine awp_yes' (by simp only [go_sem, k1, k2, k3, hx, hy, actAV, e]; exact Is.rfl') ?_ | refine awp_no' (by simp only [go_sem, k1, k2, k3, hx, hy, actAV, e]; exact Is.rfl') ?_)
      refine ⟨i + 1, ⟨hlt, take_same ht hx hy (by simpa using e)⟩, ?_, ?_, ?_⟩
      · (simp only [go_sem, k1, k2, k3, hx, hy, actAV, e])
      · (simp only [go_sem, k1, k2, k3, hx, hy, actAV, e])
      · omega
  · have k1 : ¬ (i : Int) < (a.length : Int) := by omega
    rw [same_all ht (by omega) (by omega)]
    repeat (first | refine aops_op' rfl (by simp only [go_sem, k1]; exact ⟨rfl, rfl⟩) ?_ | refine g_run ?_ | refine g_off ?_ | refine aops_nil (d_end ?_) | refine aops_nil ?_ | refine awp_seq ?_ | refine g_text ?_ | refine g_draw Tryd.mixed ?_ | refine awp_block ?_ | refine awp_skip ?_ | (refine awp_exit ?_; simp only [thenA, blockA, ↓reduceIte, Nat.reduceEqDiff, reduceCtorEq]) | refine awp_yes' (by simp only [go_sem, k1]; exact Is.rfl') ?_ | refine awp_no' (by simp only [go_sem, k1]; exact Is.rfl') ?_)
    (refine awp_ret ?_; show (resRd _ _ _).run _ = some _; simp only [go_sem, k1])

theorem efState_con (env : Env) (g : Nat) (a b : List StD) (hn : a.length ≤ 9223372036854775807) (hg : ∀ x ∈ a, ∀ y ∈ b, Con Tryd.prog env g [.agg (stAV x), .agg (stAV y)] (B (x == y))) : Con Tryd.prog env 43 [stsAV a, stsAV b, fnV g] (B (a == b)) := by
  refine con_of_body Tryd.func43 rfl Tryd.call43 (by rw [Tryd.ntmps43]; simp) ?_
  rw [Tryd.ntmps43, Tryd.results43]
  by_cases hl : a.length = b.length
  case neg =>
    have k0 := ibne hl
    rw [unlike_len hl]
    repeat (first | refine aops_op' rfl (by simp only [go_sem, k0, bne]; exact ⟨rfl, rfl⟩) ?_ | refine g_run ?_ | refine g_off ?_ | refine aops_nil (d_end ?_) | refine aops_nil ?_ | refine awp_seq ?_ | refine g_text ?_ | refine g_draw Tryd.mixed ?_ | refine awp_block ?_ | refine awp_skip ?_ | (refine awp_exit ?_; simp only [thenA, blockA, ↓reduceIte, Nat.reduceEqDiff, reduceCtorEq]) | refine awp_yes' (by simp only [go_sem, k0, bne]; exact Is.rfl') ?_ | refine awp_no' (by simp only [go_sem, k0, bne]; exact Is.rfl') ?_)
    (refine awp_ret ?_; show (resRd _ _ _).run _ = some _; simp only [go_sem, k0, bne])
  have k0 : ((a.length : Int) == (b.length : Int)) = true := by rw [hl]; simp
  repeat (first | refine aops_op' rfl (by simp only [go_sem, k0, bne]; exact ⟨rfl, rfl⟩) ?_ | refine g_run ?_ | refine g_off ?_ | refine aops_nil (d_end ?_) | refine aops_nil ?_ | refine awp_seq ?_ | refine g_text ?_ | refine g_draw Tryd.mixed ?_ | refine awp_block ?_ | refine awp_skip ?_ | (refine awp_exit ?_; simp only [thenA, blockA, ↓reduceIte, Nat.reduceEqDiff, reduceCtorEq]) | refine awp_yes' (by simp only [go_sem, k0, bne]; exact Is.rfl') ?_ | refine awp_no' (by simp only [go_sem, k0, bne]; exact Is.rfl') ?_)
  refine awp_loopH (D := Nat) (fun i _ => [(1, stsAV b), (2, fnV g), (15, stsAV a), (16, I a.length), (17, I i)]) (fun _ _ => []) (fun i _ _ => i ≤ a.length ∧ a.take i = b.take i) (fun i => a.length - i) 0 ?_ ?_ ?_ ?_
  · exact ⟨Nat.zero_le _, rfl⟩
  · (simp only [go_sem, k0, bne])
  · (simp only [go_sem, k0, bne])
  rintro i ws esc ⟨hi, ht⟩
  by_cases hlt : i < a.length
  · obtain ⟨x, hx, hxm⟩ := some_at hlt
    obtain ⟨y, hy, hym⟩ := some_at (show i < b.length by omega)
    have hc := hg x hxm y hym
    have k1 := nlt hlt
    have k3 := nlt (show i < b.length by omega)
    have k2 := wrap_succ hlt hn
    cases e : (x == y)
    · rw [unlike_at hx hy (by simpa using e)]
      repeat (first | refine aops_op' rfl (by simp only [go_sem, k1, k2, k3, hx, hy, stAV, e]; exact ⟨rfl, rfl⟩) ?_ | refine g_run ?_ | refine g_off ?_ | refine aops_nil (d_end ?_) | refine aops_nil ?_ | refine awp_seq ?_ | refine g_text ?_ | refine g_draw Tryd.mixed ?_ | refine awp_block ?_ | refine awp_skip ?_ | (refine awp_exit ?_; simp only [thenA, blockA, ↓reduceIte, Nat.reduceEqDiff, reduceCtorEq]) | refine awp_yes' (by simp only [go_sem, k1, k2, k3, hx, hy, stAV, e]; exact Is.rfl') ?_ | refine awp_no' (by simp only [go_sem, k1, k2, k3, hx, hy, stAV, e]; exact Is.rfl') ?_)
      refine aops_call' (callOf_tmp rfl (by simp only [go_sem, k1, k2, k3, hx, hy, stAV, e]; exact Is.rfl')) (hc) (by simp only [go_sem, k1, k2, k3, hx, hy, stAV, e]; exact Is.rfl') (by simp only [go_sem, k1, k2, k3, hx, hy, stAV, e]; exact ⟨rfl, rfl⟩) ?_
      repeat (first | refine aops_op' rfl (by simp only [go_sem, k1, k2, k3, hx, hy, stAV, e]; exact ⟨rfl, rfl⟩) ?_ | refine g_run ?_ | refine g_off ?_ | refine aops_nil (d_end ?_) | refine aops_nil ?_ | refine awp_seq ?_ | refine g_text ?_ | refine g_draw Tryd.mixed ?_ | refine awp_block ?_ | refine awp_skip ?_ | (refine awp_exit ?_; simp only [thenA, blockA, ↓reduceIte, Nat.reduceEqDiff, reduceCtorEq]) | refine awp_yes' (by simp only [go_sem, k1, k2, k3, hx, hy, stAV, e]; exact Is.rfl') ?_ | refine awp_no' (by simp only [go_sem, k1, k2, k3, hx, hy, stAV, e]; exact Is.rfl') ?_)
      (refine awp_ret ?_; show (resRd _ _ _).run _ = some _; simp only [go_sem, k1, k2, k3, hx, hy, stAV, e])
    · repeat (first | refine aops_op' rfl (by simp only [go_sem, k1, k2, k3, hx, hy, stAV, e]; exact ⟨rfl, rfl⟩) ?_ | refine g_run ?_ | refine g_off ?_ | refine aops_nil (d_end ?_) | refine aops_nil ?_ | refine awp_seq ?_ | refine g_text ?_ | refine g_draw Tryd.mixed ?_ | refine awp_block ?_ | refine awp_skip ?_ | (refine awp_exit ?_; simp only [thenA, blockA, ↓reduceIte, Nat.reduceEqDiff, reduceCtorEq]) | refine awp_yes' (by simp only [go_sem, k1, k2, k3, hx, hy, stAV, e]; exact Is.rfl') ?_ | refine awp_no' (by simp only [go_sem, k1, k2, k3, hx, hy, stAV, e]; exact Is.rfl') ?_)
      refine aops_call' (callOf_tmp rfl (by simp only [go_sem, k1, k2, k3, hx, hy, stAV, e]; exact Is.rfl')) (hc) (by simp only [go_sem, k1, k2, k3, hx, hy, stAV, e]; exact Is.rfl') (by simp only [go_sem, k1, k2, k3, hx, hy, stAV, e]; exact ⟨rfl, rfl⟩) ?_
      repeat (first | refine aops_op' rfl (by simp only [go_sem, k1, k2, k3, hx, hy, stAV, e]; exact ⟨rfl, rfl⟩) ?_ | refine g_run ?_ | refine g_off ?_ | refine aops_nil (d_end ?_) | refine aops_nil ?_ | refine awp_seq ?_ | refine g_text ?_ | refine g_draw Tryd.mixed ?_ | refine awp_block ?_ | refine awp_skip ?_ | (refine awp_exit ?_; simp only [thenA, blockA, ↓reduceIte, Nat.reduceEqDiff, reduceCtorEq]) | refine awp_yes' (by simp only [go_sem, k1, k2, k3, hx, hy, stAV, e]; exact Is.rfl') ?_ | refine awp_no' (by simp only [go_sem, k1, k2, k3, hx, hy, stAV, e]; exact Is.rfl') ?_)
      refine ⟨i + 1, ⟨hlt, take_same ht hx hy (by simpa using e)⟩, ?_, ?_, ?_⟩
      · (simp only [go_sem, k1, k2, k3, hx, hy, stAV, e])
      · (simp only [go_sem, k1, k2, k3, hx, hy, stAV, e])
      · omega
  · have k1 : ¬ (i : Int) < (a.length : Int) := by omega
    rw [same_all ht (by omega) (by omega)]
    repeat (first | refine aops_op' rfl (by simp only [go_sem, k1]; exact ⟨rfl, rfl⟩) ?_ | refine g_run ?_ | refine g_off ?_ | refine aops_nil (d_end ?_) | refine aops_nil ?_ | refine awp_seq ?_ | refine g_text ?_ | refine g_draw Tryd.mixed ?_ | refine awp_block ?_ | refine awp_skip ?_ | (refine awp_exit ?_; simp only [thenA, blockA, ↓reduceIte, Nat.reduceEqDiff, reduceCtorEq]) | refine awp_yes' (by simp only [go_sem, k1]; exact Is.rfl') ?_ | refine awp_no' (by simp only [go_sem, k1]; exact Is.rfl') ?_)
    (refine awp_ret ?_; show (resRd _ _ _).run _ = some _; simp only [go_sem, k1])

theorem efTran_con (env : Env) (g : Nat) (a b : List TrD) (hn : a.length ≤ 9223372036854775807) (hg : ∀ x ∈ a, ∀ y ∈ b, Con Tryd.prog env g [.agg (trAV x), .agg (trAV y)] (B (x == y))) : Con Tryd.prog env 45 [trsAV a, trsAV b, fnV g] (B (a == b)) := by
  refine con_of_body Tryd.func45 rfl Tryd.call45 (by rw [Tryd.ntmps45]; simp) ?_
  rw [Tryd.ntmps45, Tryd.results45]
  by_cases hl : a.length = b.length
  case neg =>
    have k0 := ibne hl
    rw [unlike_len hl]
    repeat (first | refine aops_op' rfl (by simp only [go_sem, k0, bne]; exact ⟨rfl, rfl⟩) ?_ | refine g_run ?_ | refine g_off ?_ | refine aops_nil (d_end ?_) | refine aops_nil ?_ | refine awp_seq ?_ | refine g_text ?_ | refine g_draw Tryd.mixed ?_ | refine awp_block ?_ | refine awp_skip ?_ | (refine awp_exit ?_; simp only [thenA, blockA, ↓reduceIte, Nat.reduceEqDiff, reduceCtorEq]) | refine awp_yes' (by simp only [go_sem, k0, bne]; exact Is.rfl') ?_ | refine awp_no' (by simp only [go_sem, k0, bne]; exact Is.rfl') ?_)
    (refine awp_ret ?_; show (resRd _ _ _).run _ = some _; simp only [go_sem, k0, bne])
  have k0 : ((a.length : Int) == (b.length : Int)) = true := by rw [hl]; simp
  repeat (first | refine aops_op' rfl (by simp only [go_sem, k0, bne]; exact ⟨rfl, rfl⟩) ?_ | refine g_run ?_ | refine g_off ?_ | refine aops_nil (d_end ?_) | refine aops_nil ?_ | refine awp_seq ?_ | refine g_text ?_ | refine g_draw Tryd.mixed ?_ | refine awp_block ?_ | refine awp_skip ?_ | (refine awp_exit ?_; simp only [thenA, blockA, ↓reduceIte, Nat.reduceEqDiff, reduceCtorEq]) | refine awp_yes' (by simp only [go_sem, k0, bne]; exact Is.rfl') ?_ | refine awp_no' (by simp only [go_sem, k0, bne]; exact Is.rfl') ?_)
  refine awp_loopH (D := Nat) (fun i _ => [(1, trsAV b), (2, fnV g), (15, trsAV a), (16, I a.length), (17, I i)]) (fun _ _ => []) (fun i _ _ => i ≤ a.length ∧ a.take i = b.take i) (fun i => a.length - i) 0 ?_ ?_ ?_ ?_
  · exact ⟨Nat.zero_le _, rfl⟩
  · (simp only [go_sem, k0, bne])
  · (simp only [go_sem, k0, bne])
  rintro i ws esc ⟨hi, ht⟩
  by_cases hlt : i < a.length
  · obtain ⟨x, hx, hxm⟩ := some_at hlt
    obtain ⟨y, hy, hym⟩ := some_at (show i < b.length by omega)
    have hc := hg x hxm y hym
    have k1 := nlt hlt
    have k3 := nlt (show i < b.length by omega)
    have k2 := wrap_succ hlt hn
    cases e : (x == y)
    · rw [unlike_at hx hy (by simpa using e)]
      repeat (first | refine aops_op' rfl (by simp only [go_sem, k1, k2, k3, hx, hy, trAV, e]; exact ⟨rfl, rfl⟩) ?_ | refine g_run ?_ | refine g_off ?_ | refine aops_nil (d_end ?_) | refine aops_nil ?_ | refine awp_seq ?_ | refine g_text ?_ | refine g_draw Tryd.mixed ?_ | refine awp_block ?_ | refine awp_skip ?_ | (refine awp_exit ?_; simp only [thenA, blockA, ↓reduceIte, Nat.reduceEqDiff, reduceCtorEq]) | refine awp_yes' (by simp only [go_sem, k1, k2, k3, hx, hy, trAV, e]; exact Is.rfl') ?_ | refine awp_no' (by simp only [go_sem, k1, k2, k3, hx, hy, trAV, e]; exact Is.rfl') ?_)
      refine aops_call' (callOf_tmp rfl (by simp only [go_sem, k1, k2, k3, hx, hy, trAV, e]; exact Is.rfl')) (hc) (by simp only [go_sem, k1, k2, k3, hx, hy, trAV, e]; exact Is.rfl') (by simp only [go_sem, k1, k2, k3, hx, hy, trAV, e]; exact ⟨rfl, rfl⟩) ?_
      repeat (first | refine aops_op' rfl (by simp only [go_sem, k1, k2, k3, hx, hy, trAV, e]; exact ⟨rfl, rfl⟩) ?_ | refine g_run ?_ | refine g_off ?_ | refine aops_nil (d_end ?_) | refine aops_nil ?_ | refine awp_seq ?_ | refine g_text ?_ | refine g_draw Tryd.mixed ?_ | refine awp_block ?_ | refine awp_skip ?_ | (refine awp_exit ?_; simp only [thenA, blockA, ↓reduceIte, Nat.reduceEqDiff, reduceCtorEq]) | refine awp_yes' (by simp only [go_sem, k1, k2, k3, hx, hy, trAV, e]; exact Is.rfl') ?_ | refine awp_no' (by simp only [go_sem, k1, k2, k3, hx, hy, trAV, e]; exact Is.rfl') ?_)
      (refine awp_ret ?_; show (resRd _ _ _).run _ = some _; simp only [go_sem, k1, k2, k3, hx, hy, trAV, e])
    · repeat (first | refine aops_op' rfl (by simp only [go_sem, k1, k2, k3, hx, hy, trAV, e]; exact ⟨rfl, rfl⟩) ?_ | refine g_run ?_ | refine g_off ?_ | refine aops_nil (d_end ?_) | refine aops_nil ?_ | refine awp_seq ?_ | refine g_text ?_ | refine g_draw Tryd.mixed ?_ | refine awp_block ?_ | refine awp_skip ?_ | (refine awp_exit ?_; simp only [thenA, blockA, ↓reduceIte, Nat.reduceEqDiff, reduceCtorEq]) | refine awp_yes' (by simp only [go_sem, k1, k2, k3, hx, hy, trAV, e]; exact Is.rfl') ?_ | refine awp_no' (by simp only [go_sem, k1, k2, k3, hx, hy, trAV, e]; exact Is.rfl') ?_)
      refine aops_call' (callOf_tmp rfl (by simp only [go_sem, k1, k2, k3, hx, hy, trAV, e]; exact Is.rfl')) (hc) (by simp only [go_sem, k1, k2, k3, hx, hy, trAV, e]; exact Is.rfl') (by simp only [go_sem, k1, k2, k3, hx, hy, trAV, e]; exact ⟨rfl, rfl⟩) ?_
      repeat (first | refine aops_op' rfl (by simp only [go_sem, k1, k2, k3, hx, hy, trAV, e]; exact ⟨rfl, rfl⟩) ?_ | refine g_run ?_ | refine g_off ?_ | refine aops_nil (d_end ?_) | refine aops_nil ?_ | refine awp_seq ?_ | refine g_text ?_ | refine g_draw Tryd.mixed ?_ | refine awp_block ?_ | refine awp_skip ?_ | (refine awp_exit ?_; simp only [thenA, blockA, ↓reduceIte, Nat.reduceEqDiff, reduceCtorEq]) | refine awp_yes' (by simp only [go_sem, k1, k2, k3, hx, hy, trAV, e]; exact Is.rfl') ?_ | refine awp_no' (by simp only [go_sem, k1, k2, k3, hx, hy, trAV, e]; exact Is.rfl') ?_)
      refine ⟨i + 1, ⟨hlt, take_same ht hx hy (by simpa using e)⟩, ?_, ?_, ?_⟩
      · (simp only [go_sem, k1, k2, k3, hx, hy, trAV, e])
      · (simp only [go_sem, k1, k2, k3, hx, hy, trAV, e])
      · omega
  · have k1 : ¬ (i : Int) < (a.length : Int) := by omega
    rw [same_all ht (by omega) (by omega)]
    repeat (first | refine aops_op' rfl (by simp only [go_sem, k1]; exact ⟨rfl, rfl⟩) ?_ | refine g_run ?_ | refine g_off ?_ | refine aops_nil (d_end ?_) | refine aops_nil ?_ | refine awp_seq ?_ | refine g_text ?_ | refine g_draw Tryd.mixed ?_ | refine awp_block ?_ | refine awp_skip ?_ | (refine awp_exit ?_; simp only [thenA, blockA, ↓reduceIte, Nat.reduceEqDiff, reduceCtorEq]) | refine awp_yes' (by simp only [go_sem, k1]; exact Is.rfl') ?_ | refine awp_no' (by simp only [go_sem, k1]; exact Is.rfl') ?_)
    (refine awp_ret ?_; show (resRd _ _ _).run _ = some _; simp only [go_sem, k1])

theorem sameAct_con (env : Env) (a b : ActD) (hf : few_act a) : Con Tryd.prog env 70 [.agg (actAV a), .agg (actAV b)] (B (a == b)) := by
  have hc := eqOps_con env a.code b.code (by have := hf.2.1; unfold maxLen at this; omega)
  rw [act_eq]
  refine con_of_body Tryd.func70 rfl Tryd.call70 (by rw [Tryd.ntmps70]; simp) ?_
  rw [Tryd.ntmps70, Tryd.results70]
  cases e0 : (a.kind == b.kind)
  · repeat (first | refine aops_op' rfl (by simp only [go_sem, actAV, e0]; exact ⟨rfl, rfl⟩) ?_ | refine g_run ?_ | refine g_off ?_ | refine aops_call' rfl (hc) (by simp only [go_sem, actAV, e0]; exact Is.rfl') (by simp only [go_sem, actAV, e0]; exact ⟨rfl, rfl⟩) ?_ | refine aops_nil (d_end ?_) | refine aops_nil ?_ | refine awp_seq ?_ | refine g_text ?_ | refine g_draw Tryd.mixed ?_ | refine awp_block ?_ | refine awp_skip ?_ | (refine awp_exit ?_; simp only [thenA, blockA, ↓reduceIte, Nat.reduceEqDiff, reduceCtorEq]) | refine awp_yes' (by simp only [go_sem, actAV, e0]; exact Is.rfl') ?_ | refine awp_no' (by simp only [go_sem, actAV, e0]; exact Is.rfl') ?_)
    (refine awp_ret ?_; show (resRd _ _ _).run _ = some _; simp only [go_sem, actAV, e0])
  cases e1 : (a.n == b.n)
  · repeat (first | refine aops_op' rfl (by simp only [go_sem, actAV, e0, e1]; exact ⟨rfl, rfl⟩) ?_ | refine g_run ?_ | refine g_off ?_ | refine aops_call' rfl (hc) (by simp only [go_sem, actAV, e0, e1]; exact Is.rfl') (by simp only [go_sem, actAV, e0, e1]; exact ⟨rfl, rfl⟩) ?_ | refine aops_nil (d_end ?_) | refine aops_nil ?_ | refine awp_seq ?_ | refine g_text ?_ | refine g_draw Tryd.mixed ?_ | refine awp_block ?_ | refine awp_skip ?_ | (refine awp_exit ?_; simp only [thenA, blockA, ↓reduceIte, Nat.reduceEqDiff, reduceCtorEq]) | refine awp_yes' (by simp only [go_sem, actAV, e0, e1]; exact Is.rfl') ?_ | refine awp_no' (by simp only [go_sem, actAV, e0, e1]; exact Is.rfl') ?_)
    (refine awp_ret ?_; show (resRd _ _ _).run _ = some _; simp only [go_sem, actAV, e0, e1])
  cases e2 : (a.name == b.name)
  · repeat (first | refine aops_op' rfl (by simp only [go_sem, actAV, e0, e1, e2]; exact ⟨rfl, rfl⟩) ?_ | refine g_run ?_ | refine g_off ?_ | refine aops_call' rfl (hc) (by simp only [go_sem, actAV, e0, e1, e2]; exact Is.rfl') (by simp only [go_sem, actAV, e0, e1, e2]; exact ⟨rfl, rfl⟩) ?_ | refine aops_nil (d_end ?_) | refine aops_nil ?_ | refine awp_seq ?_ | refine g_text ?_ | refine g_draw Tryd.mixed ?_ | refine awp_block ?_ | refine awp_skip ?_ | (refine awp_exit ?_; simp only [thenA, blockA, ↓reduceIte, Nat.reduceEqDiff, reduceCtorEq]) | refine awp_yes' (by simp only [go_sem, actAV, e0, e1, e2]; exact Is.rfl') ?_ | refine awp_no' (by simp only [go_sem, actAV, e0, e1, e2]; exact Is.rfl') ?_)
    (refine awp_ret ?_; show (resRd _ _ _).run _ = some _; simp only [go_sem, actAV, e0, e1, e2])
  repeat (first | refine aops_op' rfl (by simp only [go_sem, actAV, e0, e1, e2]; exact ⟨rfl, rfl⟩) ?_ | refine g_run ?_ | refine g_off ?_ | refine aops_call' rfl (hc) (by simp only [go_sem, actAV, e0, e1, e2]; exact Is.rfl') (by simp only [go_sem, actAV, e0, e1, e2]; exact ⟨rfl, rfl⟩) ?_ | refine aops_nil (d_end ?_) | refine aops_nil ?_ | refine awp_seq ?_ | refine g_text ?_ | refine g_draw Tryd.mixed ?_ | refine awp_block ?_ | refine awp_skip ?_ | (refine awp_exit ?_; simp only [thenA, blockA, ↓reduceIte, Nat.reduceEqDiff, reduceCtorEq]) | refine awp_yes' (by simp only [go_sem, actAV, e0, e1, e2]; exact Is.rfl') ?_ | refine awp_no' (by simp only [go_sem, actAV, e0, e1, e2]; exact Is.rfl') ?_)
  (refine awp_ret ?_; show (resRd _ _ _).run _ = some _; simp only [go_sem, actAV, e0, e1, e2])
theorem sameState_con (env : Env) (a b : StD) (hf : few_st a) : Con Tryd.prog env 44 [.agg (stAV a), .agg (stAV b)] (B (a == b)) := by
  have h1 := efAct_con env 70 a.inn b.inn (by have := hf.2.1.1; unfold maxLen at this; omega) (fun x hx y _ => sameAct_con env x y (hf.2.1.2 x hx))
  have h2 := efAct_con env 70 a.out b.out (by have := hf.2.2.1; unfold maxLen at this; omega) (fun x hx y _ => sameAct_con env x y (hf.2.2.2 x hx))
  rw [st_eq]
  refine con_of_body Tryd.func44 rfl Tryd.call44 (by rw [Tryd.ntmps44]; simp) ?_
  rw [Tryd.ntmps44, Tryd.results44]
  cases e0 : (a.name == b.name)
  · repeat (first | refine aops_op' rfl (by simp only [go_sem, stAV, e0]; exact ⟨rfl, rfl⟩) ?_ | refine g_run ?_ | refine g_off ?_ | refine aops_call' rfl (h1) (by simp only [go_sem, stAV, e0]; exact Is.rfl') (by simp only [go_sem, stAV, e0]; exact ⟨rfl, rfl⟩) ?_ | refine aops_call' rfl (h2) (by simp only [go_sem, stAV, e0]; exact Is.rfl') (by simp only [go_sem, stAV, e0]; exact ⟨rfl, rfl⟩) ?_ | refine aops_nil (d_end ?_) | refine aops_nil ?_ | refine awp_seq ?_ | refine g_text ?_ | refine g_draw Tryd.mixed ?_ | refine awp_block ?_ | refine awp_skip ?_ | (refine awp_exit ?_; simp only [thenA, blockA, ↓reduceIte, Nat.reduceEqDiff, reduceCtorEq]) | refine awp_yes' (by simp only [go_sem, stAV, e0]; exact Is.rfl') ?_ | refine awp_no' (by simp only [go_sem, stAV, e0]; exact Is.rfl') ?_)
    (refine awp_ret ?_; show (resRd _ _ _).run _ = some _; simp only [go_sem, stAV, e0])
  cases e1 : (a.kind == b.kind)
  · repeat (first | refine aops_op' rfl (by simp only [go_sem, stAV, e0, e1]; exact ⟨rfl, rfl⟩) ?_ | refine g_run ?_ | refine g_off ?_ | refine aops_call' rfl (h1) (by simp only [go_sem, stAV, e0, e1]; exact Is.rfl') (by simp only [go_sem, stAV, e0, e1]; exact ⟨rfl, rfl⟩) ?_ | refine aops_call' rfl (h2) (by simp only [go_sem, stAV, e0, e1]; exact Is.rfl') (by simp only [go_sem, stAV, e0, e1]; exact ⟨rfl, rfl⟩) ?_ | refine aops_nil (d_end ?_) | refine aops_nil ?_ | refine awp_seq ?_ | refine g_text ?_ | refine g_draw Tryd.mixed ?_ | refine awp_block ?_ | refine awp_skip ?_ | (refine awp_exit ?_; simp only [thenA, blockA, ↓reduceIte, Nat.reduceEqDiff, reduceCtorEq]) | refine awp_yes' (by simp only [go_sem, stAV, e0, e1]; exact Is.rfl') ?_ | refine awp_no' (by simp only [go_sem, stAV, e0, e1]; exact Is.rfl') ?_)
    (refine awp_ret ?_; show (resRd _ _ _).run _ = some _; simp only [go_sem, stAV, e0, e1])
  cases e2 : (a.parent == b.parent)
  · repeat (first | refine aops_op' rfl (by simp only [go_sem, stAV, e0, e1, e2]; exact ⟨rfl, rfl⟩) ?_ | refine g_run ?_ | refine g_off ?_ | refine aops_call' rfl (h1) (by simp only [go_sem, stAV, e0, e1, e2]; exact Is.rfl') (by simp only [go_sem, stAV, e0, e1, e2]; exact ⟨rfl, rfl⟩) ?_ | refine aops_call' rfl (h2) (by simp only [go_sem, stAV, e0, e1, e2]; exact Is.rfl') (by simp only [go_sem, stAV, e0, e1, e2]; exact ⟨rfl, rfl⟩) ?_ | refine aops_nil (d_end ?_) | refine aops_nil ?_ | refine awp_seq ?_ | refine g_text ?_ | refine g_draw Tryd.mixed ?_ | refine awp_block ?_ | refine awp_skip ?_ | (refine awp_exit ?_; simp only [thenA, blockA, ↓reduceIte, Nat.reduceEqDiff, reduceCtorEq]) | refine awp_yes' (by simp only [go_sem, stAV, e0, e1, e2]; exact Is.rfl') ?_ | refine awp_no' (by simp only [go_sem, stAV, e0, e1, e2]; exact Is.rfl') ?_)
    (refine awp_ret ?_; show (resRd _ _ _).run _ = some _; simp only [go_sem, stAV, e0, e1, e2])
  cases e3 : (a.initial == b.initial)
  · repeat (first | refine aops_op' rfl (by simp only [go_sem, stAV, e0, e1, e2, e3]; exact ⟨rfl, rfl⟩) ?_ | refine g_run ?_ | refine g_off ?_ | refine aops_call' rfl (h1) (by simp only [go_sem, stAV, e0, e1, e2, e3]; exact Is.rfl') (by simp only [go_sem, stAV, e0, e1, e2, e3]; exact ⟨rfl, rfl⟩) ?_ | refine aops_call' rfl (h2) (by simp only [go_sem, stAV, e0, e1, e2, e3]; exact Is.rfl') (by simp only [go_sem, stAV, e0, e1, e2, e3]; exact ⟨rfl, rfl⟩) ?_ | refine aops_nil (d_end ?_) | refine aops_nil ?_ | refine awp_seq ?_ | refine g_text ?_ | refine g_draw Tryd.mixed ?_ | refine awp_block ?_ | refine awp_skip ?_ | (refine awp_exit ?_; simp only [thenA, blockA, ↓reduceIte, Nat.reduceEqDiff, reduceCtorEq]) | refine awp_yes' (by simp only [go_sem, stAV, e0, e1, e2, e3]; exact Is.rfl') ?_ | refine awp_no' (by simp only [go_sem, stAV, e0, e1, e2, e3]; exact Is.rfl') ?_)
    (refine awp_ret ?_; show (resRd _ _ _).run _ = some _; simp only [go_sem, stAV, e0, e1, e2, e3])
  cases e4 : (a.inn == b.inn)
  · repeat (first | refine aops_op' rfl (by simp only [go_sem, stAV, e0, e1, e2, e3, e4]; exact ⟨rfl, rfl⟩) ?_ | refine g_run ?_ | refine g_off ?_ | refine aops_call' rfl (h1) (by simp only [go_sem, stAV, e0, e1, e2, e3, e4]; exact Is.rfl') (by simp only [go_sem, stAV, e0, e1, e2, e3, e4]; exact ⟨rfl, rfl⟩) ?_ | refine aops_call' rfl (h2) (by simp only [go_sem, stAV, e0, e1, e2, e3, e4]; exact Is.rfl') (by simp only [go_sem, stAV, e0, e1, e2, e3, e4]; exact ⟨rfl, rfl⟩) ?_ | refine aops_nil (d_end ?_) | refine aops_nil ?_ | refine awp_seq ?_ | refine g_text ?_ | refine g_draw Tryd.mixed ?_ | refine awp_block ?_ | refine awp_skip ?_ | (refine awp_exit ?_; simp only [thenA, blockA, ↓reduceIte, Nat.reduceEqDiff, reduceCtorEq]) | refine awp_yes' (by simp only [go_sem, stAV, e0, e1, e2, e3, e4]; exact Is.rfl') ?_ | refine awp_no' (by simp only [go_sem, stAV, e0, e1, e2, e3, e4]; exact Is.rfl') ?_)
    (refine awp_ret ?_; show (resRd _ _ _).run _ = some _; simp only [go_sem, stAV, e0, e1, e2, e3, e4])
  repeat (first | refine aops_op' rfl (by simp only [go_sem, stAV, e0, e1, e2, e3, e4]; exact ⟨rfl, rfl⟩) ?_ | refine g_run ?_ | refine g_off ?_ | refine aops_call' rfl (h1) (by simp only [go_sem, stAV, e0, e1, e2, e3, e4]; exact Is.rfl') (by simp only [go_sem, stAV, e0, e1, e2, e3, e4]; exact ⟨rfl, rfl⟩) ?_ | refine aops_call' rfl (h2) (by simp only [go_sem, stAV, e0, e1, e2, e3, e4]; exact Is.rfl') (by simp only [go_sem, stAV, e0, e1, e2, e3, e4]; exact ⟨rfl, rfl⟩) ?_ | refine aops_nil (d_end ?_) | refine aops_nil ?_ | refine awp_seq ?_ | refine g_text ?_ | refine g_draw Tryd.mixed ?_ | refine awp_block ?_ | refine awp_skip ?_ | (refine awp_exit ?_; simp only [thenA, blockA, ↓reduceIte, Nat.reduceEqDiff, reduceCtorEq]) | refine awp_yes' (by simp only [go_sem, stAV, e0, e1, e2, e3, e4]; exact Is.rfl') ?_ | refine awp_no' (by simp only [go_sem, stAV, e0, e1, e2, e3, e4]; exact Is.rfl') ?_)
  (refine awp_ret ?_; show (resRd _ _ _).run _ = some _; simp only [go_sem, stAV, e0, e1, e2, e3, e4])
theorem sameTran_con (env : Env) (a b : TrD) (hf : few_tr a) : Con Tryd.prog env 46 [.agg (trAV a), .agg (trAV b)] (B (a == b)) := by
  have h1 := eqOps_con env a.guard b.guard (by have := hf.2.1.1; unfold maxLen at this; omega)
  have h2 := efAct_con env 70 a.acts b.acts (by have := hf.2.2.1; unfold maxLen at this; omega) (fun x hx y _ => sameAct_con env x y (hf.2.2.2 x hx))
  rw [tr_eq]
  refine con_of_body Tryd.func46 rfl Tryd.call46 (by rw [Tryd.ntmps46]; simp) ?_
  rw [Tryd.ntmps46, Tryd.results46]
  cases e0 : (a.src == b.src)
  · repeat (first | refine aops_op' rfl (by simp only [go_sem, trAV, e0]; exact ⟨rfl, rfl⟩) ?_ | refine g_run ?_ | refine g_off ?_ | refine aops_call' rfl (h1) (by simp only [go_sem, trAV, e0]; exact Is.rfl') (by simp only [go_sem, trAV, e0]; exact ⟨rfl, rfl⟩) ?_ | refine aops_call' rfl (h2) (by simp only [go_sem, trAV, e0]; exact Is.rfl') (by simp only [go_sem, trAV, e0]; exact ⟨rfl, rfl⟩) ?_ | refine aops_nil (d_end ?_) | refine aops_nil ?_ | refine awp_seq ?_ | refine g_text ?_ | refine g_draw Tryd.mixed ?_ | refine awp_block ?_ | refine awp_skip ?_ | (refine awp_exit ?_; simp only [thenA, blockA, ↓reduceIte, Nat.reduceEqDiff, reduceCtorEq]) | refine awp_yes' (by simp only [go_sem, trAV, e0]; exact Is.rfl') ?_ | refine awp_no' (by simp only [go_sem, trAV, e0]; exact Is.rfl') ?_)
    (refine awp_ret ?_; show (resRd _ _ _).run _ = some _; simp only [go_sem, trAV, e0])
  cases e1 : (a.event == b.event)
  · repeat (first | refine aops_op' rfl (by simp only [go_sem, trAV, e0, e1]; exact ⟨rfl, rfl⟩) ?_ | refine g_run ?_ | refine g_off ?_ | refine aops_call' rfl (h1) (by simp only [go_sem, trAV, e0, e1]; exact Is.rfl') (by simp only [go_sem, trAV, e0, e1]; exact ⟨rfl, rfl⟩) ?_ | refine aops_call' rfl (h2) (by simp only [go_sem, trAV, e0, e1]; exact Is.rfl') (by simp only [go_sem, trAV, e0, e1]; exact ⟨rfl, rfl⟩) ?_ | refine aops_nil (d_end ?_) | refine aops_nil ?_ | refine awp_seq ?_ | refine g_text ?_ | refine g_draw Tryd.mixed ?_ | refine awp_block ?_ | refine awp_skip ?_ | (refine awp_exit ?_; simp only [thenA, blockA, ↓reduceIte, Nat.reduceEqDiff, reduceCtorEq]) | refine awp_yes' (by simp only [go_sem, trAV, e0, e1]; exact Is.rfl') ?_ | refine awp_no' (by simp only [go_sem, trAV, e0, e1]; exact Is.rfl') ?_)
    (refine awp_ret ?_; show (resRd _ _ _).run _ = some _; simp only [go_sem, trAV, e0, e1])
  cases e2 : (a.target == b.target)
  · repeat (first | refine aops_op' rfl (by simp only [go_sem, trAV, e0, e1, e2]; exact ⟨rfl, rfl⟩) ?_ | refine g_run ?_ | refine g_off ?_ | refine aops_call' rfl (h1) (by simp only [go_sem, trAV, e0, e1, e2]; exact Is.rfl') (by simp only [go_sem, trAV, e0, e1, e2]; exact ⟨rfl, rfl⟩) ?_ | refine aops_call' rfl (h2) (by simp only [go_sem, trAV, e0, e1, e2]; exact Is.rfl') (by simp only [go_sem, trAV, e0, e1, e2]; exact ⟨rfl, rfl⟩) ?_ | refine aops_nil (d_end ?_) | refine aops_nil ?_ | refine awp_seq ?_ | refine g_text ?_ | refine g_draw Tryd.mixed ?_ | refine awp_block ?_ | refine awp_skip ?_ | (refine awp_exit ?_; simp only [thenA, blockA, ↓reduceIte, Nat.reduceEqDiff, reduceCtorEq]) | refine awp_yes' (by simp only [go_sem, trAV, e0, e1, e2]; exact Is.rfl') ?_ | refine awp_no' (by simp only [go_sem, trAV, e0, e1, e2]; exact Is.rfl') ?_)
    (refine awp_ret ?_; show (resRd _ _ _).run _ = some _; simp only [go_sem, trAV, e0, e1, e2])
  cases e3 : (a.guard == b.guard)
  · repeat (first | refine aops_op' rfl (by simp only [go_sem, trAV, e0, e1, e2, e3]; exact ⟨rfl, rfl⟩) ?_ | refine g_run ?_ | refine g_off ?_ | refine aops_call' rfl (h1) (by simp only [go_sem, trAV, e0, e1, e2, e3]; exact Is.rfl') (by simp only [go_sem, trAV, e0, e1, e2, e3]; exact ⟨rfl, rfl⟩) ?_ | refine aops_call' rfl (h2) (by simp only [go_sem, trAV, e0, e1, e2, e3]; exact Is.rfl') (by simp only [go_sem, trAV, e0, e1, e2, e3]; exact ⟨rfl, rfl⟩) ?_ | refine aops_nil (d_end ?_) | refine aops_nil ?_ | refine awp_seq ?_ | refine g_text ?_ | refine g_draw Tryd.mixed ?_ | refine awp_block ?_ | refine awp_skip ?_ | (refine awp_exit ?_; simp only [thenA, blockA, ↓reduceIte, Nat.reduceEqDiff, reduceCtorEq]) | refine awp_yes' (by simp only [go_sem, trAV, e0, e1, e2, e3]; exact Is.rfl') ?_ | refine awp_no' (by simp only [go_sem, trAV, e0, e1, e2, e3]; exact Is.rfl') ?_)
    (refine awp_ret ?_; show (resRd _ _ _).run _ = some _; simp only [go_sem, trAV, e0, e1, e2, e3])
  repeat (first | refine aops_op' rfl (by simp only [go_sem, trAV, e0, e1, e2, e3]; exact ⟨rfl, rfl⟩) ?_ | refine g_run ?_ | refine g_off ?_ | refine aops_call' rfl (h1) (by simp only [go_sem, trAV, e0, e1, e2, e3]; exact Is.rfl') (by simp only [go_sem, trAV, e0, e1, e2, e3]; exact ⟨rfl, rfl⟩) ?_ | refine aops_call' rfl (h2) (by simp only [go_sem, trAV, e0, e1, e2, e3]; exact Is.rfl') (by simp only [go_sem, trAV, e0, e1, e2, e3]; exact ⟨rfl, rfl⟩) ?_ | refine aops_nil (d_end ?_) | refine aops_nil ?_ | refine awp_seq ?_ | refine g_text ?_ | refine g_draw Tryd.mixed ?_ | refine awp_block ?_ | refine awp_skip ?_ | (refine awp_exit ?_; simp only [thenA, blockA, ↓reduceIte, Nat.reduceEqDiff, reduceCtorEq]) | refine awp_yes' (by simp only [go_sem, trAV, e0, e1, e2, e3]; exact Is.rfl') ?_ | refine awp_no' (by simp only [go_sem, trAV, e0, e1, e2, e3]; exact Is.rfl') ?_)
  (refine awp_ret ?_; show (resRd _ _ _).run _ = some _; simp only [go_sem, trAV, e0, e1, e2, e3])
theorem pSame_con (env : Env) (a b : ChD) (hf : few_ch a) : Con Tryd.prog env 16 [.agg (chAV a), .agg (chAV b)] (B (a == b)) := by
  have h1 := eqVars_con env a.vars b.vars (by have := hf.2.1.1; unfold maxLen at this; omega)
  have h2 := efState_con env 44 a.states b.states (by have := hf.2.2.1.1; unfold maxLen at this; omega) (fun x hx y _ => sameState_con env x y (hf.2.2.1.2 x hx))
  have h3 := efTran_con env 46 a.trans b.trans (by have := hf.2.2.2.1; unfold maxLen at this; omega) (fun x hx y _ => sameTran_con env x y (hf.2.2.2.2 x hx))
  rw [ch_eq]
  refine con_of_body Tryd.func16 rfl Tryd.call16 (by rw [Tryd.ntmps16]; simp) ?_
  rw [Tryd.ntmps16, Tryd.results16]
  cases e0 : (a.name == b.name)
  · repeat (first | refine aops_op' rfl (by simp only [go_sem, chAV, e0]; exact ⟨rfl, rfl⟩) ?_ | refine g_run ?_ | refine g_off ?_ | refine aops_call' rfl (h1) (by simp only [go_sem, chAV, e0]; exact Is.rfl') (by simp only [go_sem, chAV, e0]; exact ⟨rfl, rfl⟩) ?_ | refine aops_call' rfl (h2) (by simp only [go_sem, chAV, e0]; exact Is.rfl') (by simp only [go_sem, chAV, e0]; exact ⟨rfl, rfl⟩) ?_ | refine aops_call' rfl (h3) (by simp only [go_sem, chAV, e0]; exact Is.rfl') (by simp only [go_sem, chAV, e0]; exact ⟨rfl, rfl⟩) ?_ | refine aops_nil (d_end ?_) | refine aops_nil ?_ | refine awp_seq ?_ | refine g_text ?_ | refine g_draw Tryd.mixed ?_ | refine awp_block ?_ | refine awp_skip ?_ | (refine awp_exit ?_; simp only [thenA, blockA, ↓reduceIte, Nat.reduceEqDiff, reduceCtorEq]) | refine awp_yes' (by simp only [go_sem, chAV, e0]; exact Is.rfl') ?_ | refine awp_no' (by simp only [go_sem, chAV, e0]; exact Is.rfl') ?_)
    (refine awp_ret ?_; show (resRd _ _ _).run _ = some _; simp only [go_sem, chAV, e0])
  cases e1 : (a.initial == b.initial)
  · repeat (first | refine aops_op' rfl (by simp only [go_sem, chAV, e0, e1]; exact ⟨rfl, rfl⟩) ?_ | refine g_run ?_ | refine g_off ?_ | refine aops_call' rfl (h1) (by simp only [go_sem, chAV, e0, e1]; exact Is.rfl') (by simp only [go_sem, chAV, e0, e1]; exact ⟨rfl, rfl⟩) ?_ | refine aops_call' rfl (h2) (by simp only [go_sem, chAV, e0, e1]; exact Is.rfl') (by simp only [go_sem, chAV, e0, e1]; exact ⟨rfl, rfl⟩) ?_ | refine aops_call' rfl (h3) (by simp only [go_sem, chAV, e0, e1]; exact Is.rfl') (by simp only [go_sem, chAV, e0, e1]; exact ⟨rfl, rfl⟩) ?_ | refine aops_nil (d_end ?_) | refine aops_nil ?_ | refine awp_seq ?_ | refine g_text ?_ | refine g_draw Tryd.mixed ?_ | refine awp_block ?_ | refine awp_skip ?_ | (refine awp_exit ?_; simp only [thenA, blockA, ↓reduceIte, Nat.reduceEqDiff, reduceCtorEq]) | refine awp_yes' (by simp only [go_sem, chAV, e0, e1]; exact Is.rfl') ?_ | refine awp_no' (by simp only [go_sem, chAV, e0, e1]; exact Is.rfl') ?_)
    (refine awp_ret ?_; show (resRd _ _ _).run _ = some _; simp only [go_sem, chAV, e0, e1])
  cases e2 : (a.vars == b.vars)
  · repeat (first | refine aops_op' rfl (by simp only [go_sem, chAV, e0, e1, e2]; exact ⟨rfl, rfl⟩) ?_ | refine g_run ?_ | refine g_off ?_ | refine aops_call' rfl (h1) (by simp only [go_sem, chAV, e0, e1, e2]; exact Is.rfl') (by simp only [go_sem, chAV, e0, e1, e2]; exact ⟨rfl, rfl⟩) ?_ | refine aops_call' rfl (h2) (by simp only [go_sem, chAV, e0, e1, e2]; exact Is.rfl') (by simp only [go_sem, chAV, e0, e1, e2]; exact ⟨rfl, rfl⟩) ?_ | refine aops_call' rfl (h3) (by simp only [go_sem, chAV, e0, e1, e2]; exact Is.rfl') (by simp only [go_sem, chAV, e0, e1, e2]; exact ⟨rfl, rfl⟩) ?_ | refine aops_nil (d_end ?_) | refine aops_nil ?_ | refine awp_seq ?_ | refine g_text ?_ | refine g_draw Tryd.mixed ?_ | refine awp_block ?_ | refine awp_skip ?_ | (refine awp_exit ?_; simp only [thenA, blockA, ↓reduceIte, Nat.reduceEqDiff, reduceCtorEq]) | refine awp_yes' (by simp only [go_sem, chAV, e0, e1, e2]; exact Is.rfl') ?_ | refine awp_no' (by simp only [go_sem, chAV, e0, e1, e2]; exact Is.rfl') ?_)
    (refine awp_ret ?_; show (resRd _ _ _).run _ = some _; simp only [go_sem, chAV, e0, e1, e2])
  cases e3 : (a.states == b.states)
  · repeat (first | refine aops_op' rfl (by simp only [go_sem, chAV, e0, e1, e2, e3]; exact ⟨rfl, rfl⟩) ?_ | refine g_run ?_ | refine g_off ?_ | refine aops_call' rfl (h1) (by simp only [go_sem, chAV, e0, e1, e2, e3]; exact Is.rfl') (by simp only [go_sem, chAV, e0, e1, e2, e3]; exact ⟨rfl, rfl⟩) ?_ | refine aops_call' rfl (h2) (by simp only [go_sem, chAV, e0, e1, e2, e3]; exact Is.rfl') (by simp only [go_sem, chAV, e0, e1, e2, e3]; exact ⟨rfl, rfl⟩) ?_ | refine aops_call' rfl (h3) (by simp only [go_sem, chAV, e0, e1, e2, e3]; exact Is.rfl') (by simp only [go_sem, chAV, e0, e1, e2, e3]; exact ⟨rfl, rfl⟩) ?_ | refine aops_nil (d_end ?_) | refine aops_nil ?_ | refine awp_seq ?_ | refine g_text ?_ | refine g_draw Tryd.mixed ?_ | refine awp_block ?_ | refine awp_skip ?_ | (refine awp_exit ?_; simp only [thenA, blockA, ↓reduceIte, Nat.reduceEqDiff, reduceCtorEq]) | refine awp_yes' (by simp only [go_sem, chAV, e0, e1, e2, e3]; exact Is.rfl') ?_ | refine awp_no' (by simp only [go_sem, chAV, e0, e1, e2, e3]; exact Is.rfl') ?_)
    (refine awp_ret ?_; show (resRd _ _ _).run _ = some _; simp only [go_sem, chAV, e0, e1, e2, e3])
  repeat (first | refine aops_op' rfl (by simp only [go_sem, chAV, e0, e1, e2, e3]; exact ⟨rfl, rfl⟩) ?_ | refine g_run ?_ | refine g_off ?_ | refine aops_call' rfl (h1) (by simp only [go_sem, chAV, e0, e1, e2, e3]; exact Is.rfl') (by simp only [go_sem, chAV, e0, e1, e2, e3]; exact ⟨rfl, rfl⟩) ?_ | refine aops_call' rfl (h2) (by simp only [go_sem, chAV, e0, e1, e2, e3]; exact Is.rfl') (by simp only [go_sem, chAV, e0, e1, e2, e3]; exact ⟨rfl, rfl⟩) ?_ | refine aops_call' rfl (h3) (by simp only [go_sem, chAV, e0, e1, e2, e3]; exact Is.rfl') (by simp only [go_sem, chAV, e0, e1, e2, e3]; exact ⟨rfl, rfl⟩) ?_ | refine aops_nil (d_end ?_) | refine aops_nil ?_ | refine awp_seq ?_ | refine g_text ?_ | refine g_draw Tryd.mixed ?_ | refine awp_block ?_ | refine awp_skip ?_ | (refine awp_exit ?_; simp only [thenA, blockA, ↓reduceIte, Nat.reduceEqDiff, reduceCtorEq]) | refine awp_yes' (by simp only [go_sem, chAV, e0, e1, e2, e3]; exact Is.rfl') ?_ | refine awp_no' (by simp only [go_sem, chAV, e0, e1, e2, e3]; exact Is.rfl') ?_)
  (refine awp_ret ?_; show (resRd _ _ _).run _ = some _; simp only [go_sem, chAV, e0, e1, e2, e3])
end Go.Proofs.YtaggnpieofpphaaDoor
