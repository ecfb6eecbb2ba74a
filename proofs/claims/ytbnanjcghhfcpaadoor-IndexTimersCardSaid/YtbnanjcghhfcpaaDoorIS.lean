/- The law IndexTimers, walked. -/
import Derived.Test.YtbnanjcghhfcpaaDoorIR
set_option linter.unusedSimpArgs false
namespace Go.Proofs.YtbnanjcghhfcpaaDoor
open Go.RowKit
set_option maxRecDepth 100000
set_option maxHeartbeats 8000000
attribute [local go_sem_proc ↓] reduceIte
attribute [local go_sem_proc] reduceCtorEq Nat.reduceAdd Nat.reduceSub Nat.reduceEqDiff Nat.reduceLT Nat.reduceLeDiff Nat.reduceMul Int.reduceToNat Int.reduceBEq Int.reduceBNe Int.reduceEq Int.reduceLT Int.reduceLE
attribute [local go_sem] resRd resOne resAll HoldF HoldR Takes thenA blockA ev_move ev_assign ev_pick ev_alloc ev_box ev_build ev_buildSlice ev_load ev_store ev_binOp ev_unOp ev_convert ev_iface ev_make ev_slice ev_fieldAddr ev_field ev_indexAddr ev_index ev_extract ev_len ev_append ev_min ev_max evMin evMax gt_tmp gt_int gt_bool gt_str gt_nilS gt_nilP gt_nilI pickRd allocRd buildRd sliceRd loadRd unRd ifaceRd exRd val optRd callRd seen AV.plain adopt fzArgs Rd.run AV.asCells newBox runL Comes' Rd.row Rd.bind Out.app apps Eff.app St.renew St.setRow St.show St.put St.init upd evStore evBin eqFs eqCell evConv evSeq evLen evIndexAddr evFieldAddr evField evIndex bound evSlice evAppend evMake loadOf fillAV fillEs fzParts fz fzCell fzCells shows isConstOp splice wrs wes Value.oneCell' List.getD_cons_zero List.getD_cons_succ List.getD_nil List.length_cons List.length_nil List.map_cons List.map_nil List.nil_append List.cons_append List.all_cons List.all_nil List.getElem?_cons_zero List.getElem?_cons_succ List.set_cons_zero List.set_cons_succ List.take_succ_cons List.take_zero List.drop_succ_cons List.drop_zero List.take_nil List.drop_nil List.replicate_succ List.replicate_zero Bool.and_true Bool.true_and Bool.and_self and_self true_and and_true Nat.zero_add Nat.add_zero Option.some.injEq Nat.zero_lt_succ Bool.not_true Bool.not_false ne_eq not_true_eq_false not_false_eq_true Option.map_some Option.map_none List.toList_toArray head headF headR List.length_map Int.toNat_natCast Int.natCast_nonneg List.getElem?_map decide_true decide_false Bool.false_eq_true if_true if_false Bool.or_self Bool.or_true Bool.true_or Bool.false_or Bool.or_false Bool.and_false Bool.false_and List.flatten_cons List.flatten_nil List.append_nil nat0 or_self or_false false_or or_true true_or and_false false_and List.length_append List.isEmpty_nil bne_self_eq_false beq_self_eq_true fits_small strL_l bytesOf_map wants Int.cast_ofNat_Int gt_iff_lt ge_iff_le
attribute [local go_sem ←] List.map_drop List.map_take

theorem awake35_con (env : Env) : Con Tryd.prog env 11 [] (B true) :=
  con_lit Tryd.call11 fun w S vs hE hl hv => by
    match vs, hl with
    | [], _ => exact awake35 w
theorem itim_low (ad : Nat → Addr) (mo : More) (r : Rc) (inst : Int) (h : inst < 1) : Con Tryd.prog (errEnv ad mo) 4 [.agg (recAV r), I inst] (B true) := by
  have f3 := awake35_con (errEnv ad mo)
  refine con_of_body Tryd.func4 rfl Tryd.call4 (by rw [Tryd.ntmps4]; simp) ?_
  rw [Tryd.ntmps4, Tryd.results4]
  by_cases m1 : (60 : Int) < (r.mem.length : Int)
  · repeat (first | refine aops_op' rfl (by simp only [go_sem, m1, recAV]; exact ⟨rfl, rfl⟩) ?_ | refine g_run ?_ | refine g_off ?_ | refine aops_call' rfl (f3) (by simp only [go_sem, m1, recAV]; exact Is.rfl') (by simp only [go_sem, m1, recAV]; exact ⟨rfl, rfl⟩) ?_ | refine aops_nil (d_end ?_) | refine aops_nil ?_ | refine awp_seq ?_ | refine g_text ?_ | refine g_draw Tryd.mixed ?_ | refine awp_block ?_ | refine awp_skip ?_ | (refine awp_exit ?_; simp only [thenA, blockA, ↓reduceIte, Nat.reduceEqDiff, reduceCtorEq]) | refine awp_yes' (by simp only [go_sem, m1, recAV]; exact Is.rfl') ?_ | refine awp_no' (by simp only [go_sem, m1, recAV]; exact Is.rfl') ?_)
    (refine awp_ret ?_; show (resRd _ _ _).run _ = some _; simp only [go_sem, m1, recAV])
  by_cases m2 : (60 : Int) < (r.active.length : Int)
  · repeat (first | refine aops_op' rfl (by simp only [go_sem, m1, m2, recAV]; exact ⟨rfl, rfl⟩) ?_ | refine g_run ?_ | refine g_off ?_ | refine aops_call' rfl (f3) (by simp only [go_sem, m1, m2, recAV]; exact Is.rfl') (by simp only [go_sem, m1, m2, recAV]; exact ⟨rfl, rfl⟩) ?_ | refine aops_nil (d_end ?_) | refine aops_nil ?_ | refine awp_seq ?_ | refine g_text ?_ | refine g_draw Tryd.mixed ?_ | refine awp_block ?_ | refine awp_skip ?_ | (refine awp_exit ?_; simp only [thenA, blockA, ↓reduceIte, Nat.reduceEqDiff, reduceCtorEq]) | refine awp_yes' (by simp only [go_sem, m1, m2, recAV]; exact Is.rfl') ?_ | refine awp_no' (by simp only [go_sem, m1, m2, recAV]; exact Is.rfl') ?_)
    (refine awp_ret ?_; show (resRd _ _ _).run _ = some _; simp only [go_sem, m1, m2, recAV])
  by_cases m3 : (60 : Int) < (r.vars.length : Int)
  · repeat (first | refine aops_op' rfl (by simp only [go_sem, m1, m2, m3, recAV]; exact ⟨rfl, rfl⟩) ?_ | refine g_run ?_ | refine g_off ?_ | refine aops_call' rfl (f3) (by simp only [go_sem, m1, m2, m3, recAV]; exact Is.rfl') (by simp only [go_sem, m1, m2, m3, recAV]; exact ⟨rfl, rfl⟩) ?_ | refine aops_nil (d_end ?_) | refine aops_nil ?_ | refine awp_seq ?_ | refine g_text ?_ | refine g_draw Tryd.mixed ?_ | refine awp_block ?_ | refine awp_skip ?_ | (refine awp_exit ?_; simp only [thenA, blockA, ↓reduceIte, Nat.reduceEqDiff, reduceCtorEq]) | refine awp_yes' (by simp only [go_sem, m1, m2, m3, recAV]; exact Is.rfl') ?_ | refine awp_no' (by simp only [go_sem, m1, m2, m3, recAV]; exact Is.rfl') ?_)
    (refine awp_ret ?_; show (resRd _ _ _).run _ = some _; simp only [go_sem, m1, m2, m3, recAV])
  by_cases m4 : (60 : Int) < (r.timers.length : Int)
  · repeat (first | refine aops_op' rfl (by simp only [go_sem, m1, m2, m3, m4, recAV]; exact ⟨rfl, rfl⟩) ?_ | refine g_run ?_ | refine g_off ?_ | refine aops_call' rfl (f3) (by simp only [go_sem, m1, m2, m3, m4, recAV]; exact Is.rfl') (by simp only [go_sem, m1, m2, m3, m4, recAV]; exact ⟨rfl, rfl⟩) ?_ | refine aops_nil (d_end ?_) | refine aops_nil ?_ | refine awp_seq ?_ | refine g_text ?_ | refine g_draw Tryd.mixed ?_ | refine awp_block ?_ | refine awp_skip ?_ | (refine awp_exit ?_; simp only [thenA, blockA, ↓reduceIte, Nat.reduceEqDiff, reduceCtorEq]) | refine awp_yes' (by simp only [go_sem, m1, m2, m3, m4, recAV]; exact Is.rfl') ?_ | refine awp_no' (by simp only [go_sem, m1, m2, m3, m4, recAV]; exact Is.rfl') ?_)
    (refine awp_ret ?_; show (resRd _ _ _).run _ = some _; simp only [go_sem, m1, m2, m3, m4, recAV])
  repeat (first | refine aops_op' rfl (by simp only [go_sem, m1, m2, m3, m4, recAV]; exact ⟨rfl, rfl⟩) ?_ | refine g_run ?_ | refine g_off ?_ | refine aops_call' rfl (f3) (by simp only [go_sem, m1, m2, m3, m4, recAV]; exact Is.rfl') (by simp only [go_sem, m1, m2, m3, m4, recAV]; exact ⟨rfl, rfl⟩) ?_ | refine aops_nil (d_end ?_) | refine aops_nil ?_ | refine awp_seq ?_ | refine g_text ?_ | refine g_draw Tryd.mixed ?_ | refine awp_block ?_ | refine awp_skip ?_ | (refine awp_exit ?_; simp only [thenA, blockA, ↓reduceIte, Nat.reduceEqDiff, reduceCtorEq]) | refine awp_yes' (by simp only [go_sem, m1, m2, m3, m4, recAV]; exact Is.rfl') ?_ | refine awp_no' (by simp only [go_sem, m1, m2, m3, m4, recAV]; exact Is.rfl') ?_)
  refine awp_loopH (D := Nat) (fun k vs => [(1, I inst), (2, .loc 2 (vs 2) 0 0), (5, I k)]) (fun _ _ => [(2, ⟨8, [recAV r], 38, false⟩)]) (fun k _ _ => k ≤ r.mem.length ∧ ∀ m ∈ r.mem.take k, m.2.length ≤ 60) (fun k => r.mem.length - k) 0 ?_ ?_ ?_ ?_
  · exact ⟨Nat.zero_le _, fun m hm => by simp at hm⟩
  · (simp only [go_sem, m1, m2, m3, m4, recAV])
  · (simp only [go_sem, m1, m2, m3, m4, recAV])
  rintro k ws esc ⟨hk, hm⟩
  by_cases hlt : k < r.mem.length
  · have g1 := nlt hlt
    have g2 := wrap_succ hlt (by omega)
    obtain ⟨⟨n0, l0⟩, hx⟩ : ∃ x, r.mem[k]? = some x := ⟨r.mem[k], List.getElem?_eq_getElem hlt⟩
    by_cases m5 : (60 : Int) < (l0.length : Int)
    · repeat (first | refine aops_op' rfl (by simp only [go_sem, g1, g2, hx, m5, recAV, memAV]; exact ⟨rfl, rfl⟩) ?_ | refine g_run ?_ | refine g_off ?_ | refine aops_call' rfl (f3) (by simp only [go_sem, g1, g2, hx, m5, recAV, memAV]; exact Is.rfl') (by simp only [go_sem, g1, g2, hx, m5, recAV, memAV]; exact ⟨rfl, rfl⟩) ?_ | refine aops_nil (d_end ?_) | refine aops_nil ?_ | refine awp_seq ?_ | refine g_text ?_ | refine g_draw Tryd.mixed ?_ | refine awp_block ?_ | refine awp_skip ?_ | (refine awp_exit ?_; simp only [thenA, blockA, ↓reduceIte, Nat.reduceEqDiff, reduceCtorEq]) | refine awp_yes' (by simp only [go_sem, g1, g2, hx, m5, recAV, memAV]; exact Is.rfl') ?_ | refine awp_no' (by simp only [go_sem, g1, g2, hx, m5, recAV, memAV]; exact Is.rfl') ?_)
      (refine awp_ret ?_; show (resRd _ _ _).run _ = some _; simp only [go_sem, g1, g2, hx, m5, recAV, memAV])
    · repeat (first | refine aops_op' rfl (by simp only [go_sem, g1, g2, hx, m5, recAV, memAV]; exact ⟨rfl, rfl⟩) ?_ | refine g_run ?_ | refine g_off ?_ | refine aops_call' rfl (f3) (by simp only [go_sem, g1, g2, hx, m5, recAV, memAV]; exact Is.rfl') (by simp only [go_sem, g1, g2, hx, m5, recAV, memAV]; exact ⟨rfl, rfl⟩) ?_ | refine aops_nil (d_end ?_) | refine aops_nil ?_ | refine awp_seq ?_ | refine g_text ?_ | refine g_draw Tryd.mixed ?_ | refine awp_block ?_ | refine awp_skip ?_ | (refine awp_exit ?_; simp only [thenA, blockA, ↓reduceIte, Nat.reduceEqDiff, reduceCtorEq]) | refine awp_yes' (by simp only [go_sem, g1, g2, hx, m5, recAV, memAV]; exact Is.rfl') ?_ | refine awp_no' (by simp only [go_sem, g1, g2, hx, m5, recAV, memAV]; exact Is.rfl') ?_)
      refine ⟨k + 1, ⟨hlt, fun m hmm => ?_⟩, ?_, ?_, ?_⟩
      · rw [List.take_add_one, hx] at hmm
        rcases List.mem_append.1 hmm with h | h
        · exact hm m h
        · simp at h
          rw [h]
          show l0.length ≤ 60
          omega
      · (simp only [go_sem, g1, g2, hx, m5, recAV, memAV])
      · (simp only [go_sem, g1, g2, hx, m5, recAV, memAV])
      · omega
  have g1 : ¬ (k : Int) < (r.mem.length : Int) := by omega
  have hkl : k = r.mem.length := by omega
  subst hkl
  rw [List.take_length] at hm
  have hl : Lite r := ⟨by omega, by omega, by omega, by omega, fun m hmm => by have := hm m hmm; omega⟩
  have f4 := timers_bad ad mo r inst (by simp [numberB]; omega)
  have f5 := tells35_one ad mo 2 (by omega) (-1)
  repeat (first | refine aops_op' rfl (by simp only [go_sem, g1, h, recAV]; exact ⟨rfl, rfl⟩) ?_ | refine g_run ?_ | refine g_off ?_ | refine aops_call' rfl (f3) (by simp only [go_sem, g1, h, recAV]; exact Is.rfl') (by simp only [go_sem, g1, h, recAV]; exact ⟨rfl, rfl⟩) ?_ | refine aops_call' rfl (f4) (by simp only [go_sem, g1, h, recAV]; exact Is.rfl') (by simp only [go_sem, g1, h, recAV]; exact ⟨rfl, rfl⟩) ?_ | refine aops_call' rfl (f5) (by simp only [go_sem, g1, h, recAV]; exact Is.rfl') (by simp only [go_sem, g1, h, recAV]; exact ⟨rfl, rfl⟩) ?_ | refine aops_nil (d_end ?_) | refine aops_nil ?_ | refine awp_seq ?_ | refine g_text ?_ | refine g_draw Tryd.mixed ?_ | refine awp_block ?_ | refine awp_skip ?_ | (refine awp_exit ?_; simp only [thenA, blockA, ↓reduceIte, Nat.reduceEqDiff, reduceCtorEq]) | refine awp_yes' (by simp only [go_sem, g1, h, recAV]; exact Is.rfl') ?_ | refine awp_no' (by simp only [go_sem, g1, h, recAV]; exact Is.rfl') ?_)
  (refine awp_ret ?_; show (resRd _ _ _).run _ = some _; simp only [go_sem, g1, h, recAV])
theorem itim_high (ad : Nat → Addr) (mo : More) (r : Rc) (inst : Int) (h : 2147483647 < inst) : Con Tryd.prog (errEnv ad mo) 4 [.agg (recAV r), I inst] (B true) := by
  have f3 := awake35_con (errEnv ad mo)
  refine con_of_body Tryd.func4 rfl Tryd.call4 (by rw [Tryd.ntmps4]; simp) ?_
  rw [Tryd.ntmps4, Tryd.results4]
  by_cases m1 : (60 : Int) < (r.mem.length : Int)
  · repeat (first | refine aops_op' rfl (by simp only [go_sem, m1, recAV]; exact ⟨rfl, rfl⟩) ?_ | refine g_run ?_ | refine g_off ?_ | refine aops_call' rfl (f3) (by simp only [go_sem, m1, recAV]; exact Is.rfl') (by simp only [go_sem, m1, recAV]; exact ⟨rfl, rfl⟩) ?_ | refine aops_nil (d_end ?_) | refine aops_nil ?_ | refine awp_seq ?_ | refine g_text ?_ | refine g_draw Tryd.mixed ?_ | refine awp_block ?_ | refine awp_skip ?_ | (refine awp_exit ?_; simp only [thenA, blockA, ↓reduceIte, Nat.reduceEqDiff, reduceCtorEq]) | refine awp_yes' (by simp only [go_sem, m1, recAV]; exact Is.rfl') ?_ | refine awp_no' (by simp only [go_sem, m1, recAV]; exact Is.rfl') ?_)
    (refine awp_ret ?_; show (resRd _ _ _).run _ = some _; simp only [go_sem, m1, recAV])
  by_cases m2 : (60 : Int) < (r.active.length : Int)
  · repeat (first | refine aops_op' rfl (by simp only [go_sem, m1, m2, recAV]; exact ⟨rfl, rfl⟩) ?_ | refine g_run ?_ | refine g_off ?_ | refine aops_call' rfl (f3) (by simp only [go_sem, m1, m2, recAV]; exact Is.rfl') (by simp only [go_sem, m1, m2, recAV]; exact ⟨rfl, rfl⟩) ?_ | refine aops_nil (d_end ?_) | refine aops_nil ?_ | refine awp_seq ?_ | refine g_text ?_ | refine g_draw Tryd.mixed ?_ | refine awp_block ?_ | refine awp_skip ?_ | (refine awp_exit ?_; simp only [thenA, blockA, ↓reduceIte, Nat.reduceEqDiff, reduceCtorEq]) | refine awp_yes' (by simp only [go_sem, m1, m2, recAV]; exact Is.rfl') ?_ | refine awp_no' (by simp only [go_sem, m1, m2, recAV]; exact Is.rfl') ?_)
    (refine awp_ret ?_; show (resRd _ _ _).run _ = some _; simp only [go_sem, m1, m2, recAV])
  by_cases m3 : (60 : Int) < (r.vars.length : Int)
  · repeat (first | refine aops_op' rfl (by simp only [go_sem, m1, m2, m3, recAV]; exact ⟨rfl, rfl⟩) ?_ | refine g_run ?_ | refine g_off ?_ | refine aops_call' rfl (f3) (by simp only [go_sem, m1, m2, m3, recAV]; exact Is.rfl') (by simp only [go_sem, m1, m2, m3, recAV]; exact ⟨rfl, rfl⟩) ?_ | refine aops_nil (d_end ?_) | refine aops_nil ?_ | refine awp_seq ?_ | refine g_text ?_ | refine g_draw Tryd.mixed ?_ | refine awp_block ?_ | refine awp_skip ?_ | (refine awp_exit ?_; simp only [thenA, blockA, ↓reduceIte, Nat.reduceEqDiff, reduceCtorEq]) | refine awp_yes' (by simp only [go_sem, m1, m2, m3, recAV]; exact Is.rfl') ?_ | refine awp_no' (by simp only [go_sem, m1, m2, m3, recAV]; exact Is.rfl') ?_)
    (refine awp_ret ?_; show (resRd _ _ _).run _ = some _; simp only [go_sem, m1, m2, m3, recAV])
  by_cases m4 : (60 : Int) < (r.timers.length : Int)
  · repeat (first | refine aops_op' rfl (by simp only [go_sem, m1, m2, m3, m4, recAV]; exact ⟨rfl, rfl⟩) ?_ | refine g_run ?_ | refine g_off ?_ | refine aops_call' rfl (f3) (by simp only [go_sem, m1, m2, m3, m4, recAV]; exact Is.rfl') (by simp only [go_sem, m1, m2, m3, m4, recAV]; exact ⟨rfl, rfl⟩) ?_ | refine aops_nil (d_end ?_) | refine aops_nil ?_ | refine awp_seq ?_ | refine g_text ?_ | refine g_draw Tryd.mixed ?_ | refine awp_block ?_ | refine awp_skip ?_ | (refine awp_exit ?_; simp only [thenA, blockA, ↓reduceIte, Nat.reduceEqDiff, reduceCtorEq]) | refine awp_yes' (by simp only [go_sem, m1, m2, m3, m4, recAV]; exact Is.rfl') ?_ | refine awp_no' (by simp only [go_sem, m1, m2, m3, m4, recAV]; exact Is.rfl') ?_)
    (refine awp_ret ?_; show (resRd _ _ _).run _ = some _; simp only [go_sem, m1, m2, m3, m4, recAV])
  repeat (first | refine aops_op' rfl (by simp only [go_sem, m1, m2, m3, m4, recAV]; exact ⟨rfl, rfl⟩) ?_ | refine g_run ?_ | refine g_off ?_ | refine aops_call' rfl (f3) (by simp only [go_sem, m1, m2, m3, m4, recAV]; exact Is.rfl') (by simp only [go_sem, m1, m2, m3, m4, recAV]; exact ⟨rfl, rfl⟩) ?_ | refine aops_nil (d_end ?_) | refine aops_nil ?_ | refine awp_seq ?_ | refine g_text ?_ | refine g_draw Tryd.mixed ?_ | refine awp_block ?_ | refine awp_skip ?_ | (refine awp_exit ?_; simp only [thenA, blockA, ↓reduceIte, Nat.reduceEqDiff, reduceCtorEq]) | refine awp_yes' (by simp only [go_sem, m1, m2, m3, m4, recAV]; exact Is.rfl') ?_ | refine awp_no' (by simp only [go_sem, m1, m2, m3, m4, recAV]; exact Is.rfl') ?_)
  refine awp_loopH (D := Nat) (fun k vs => [(1, I inst), (2, .loc 2 (vs 2) 0 0), (5, I k)]) (fun _ _ => [(2, ⟨8, [recAV r], 38, false⟩)]) (fun k _ _ => k ≤ r.mem.length ∧ ∀ m ∈ r.mem.take k, m.2.length ≤ 60) (fun k => r.mem.length - k) 0 ?_ ?_ ?_ ?_
  · exact ⟨Nat.zero_le _, fun m hm => by simp at hm⟩
  · (simp only [go_sem, m1, m2, m3, m4, recAV])
  · (simp only [go_sem, m1, m2, m3, m4, recAV])
  rintro k ws esc ⟨hk, hm⟩
  by_cases hlt : k < r.mem.length
  · have g1 := nlt hlt
    have g2 := wrap_succ hlt (by omega)
    obtain ⟨⟨n0, l0⟩, hx⟩ : ∃ x, r.mem[k]? = some x := ⟨r.mem[k], List.getElem?_eq_getElem hlt⟩
    by_cases m5 : (60 : Int) < (l0.length : Int)
    · repeat (first | refine aops_op' rfl (by simp only [go_sem, g1, g2, hx, m5, recAV, memAV]; exact ⟨rfl, rfl⟩) ?_ | refine g_run ?_ | refine g_off ?_ | refine aops_call' rfl (f3) (by simp only [go_sem, g1, g2, hx, m5, recAV, memAV]; exact Is.rfl') (by simp only [go_sem, g1, g2, hx, m5, recAV, memAV]; exact ⟨rfl, rfl⟩) ?_ | refine aops_nil (d_end ?_) | refine aops_nil ?_ | refine awp_seq ?_ | refine g_text ?_ | refine g_draw Tryd.mixed ?_ | refine awp_block ?_ | refine awp_skip ?_ | (refine awp_exit ?_; simp only [thenA, blockA, ↓reduceIte, Nat.reduceEqDiff, reduceCtorEq]) | refine awp_yes' (by simp only [go_sem, g1, g2, hx, m5, recAV, memAV]; exact Is.rfl') ?_ | refine awp_no' (by simp only [go_sem, g1, g2, hx, m5, recAV, memAV]; exact Is.rfl') ?_)
      (refine awp_ret ?_; show (resRd _ _ _).run _ = some _; simp only [go_sem, g1, g2, hx, m5, recAV, memAV])
    · repeat (first | refine aops_op' rfl (by simp only [go_sem, g1, g2, hx, m5, recAV, memAV]; exact ⟨rfl, rfl⟩) ?_ | refine g_run ?_ | refine g_off ?_ | refine aops_call' rfl (f3) (by simp only [go_sem, g1, g2, hx, m5, recAV, memAV]; exact Is.rfl') (by simp only [go_sem, g1, g2, hx, m5, recAV, memAV]; exact ⟨rfl, rfl⟩) ?_ | refine aops_nil (d_end ?_) | refine aops_nil ?_ | refine awp_seq ?_ | refine g_text ?_ | refine g_draw Tryd.mixed ?_ | refine awp_block ?_ | refine awp_skip ?_ | (refine awp_exit ?_; simp only [thenA, blockA, ↓reduceIte, Nat.reduceEqDiff, reduceCtorEq]) | refine awp_yes' (by simp only [go_sem, g1, g2, hx, m5, recAV, memAV]; exact Is.rfl') ?_ | refine awp_no' (by simp only [go_sem, g1, g2, hx, m5, recAV, memAV]; exact Is.rfl') ?_)
      refine ⟨k + 1, ⟨hlt, fun m hmm => ?_⟩, ?_, ?_, ?_⟩
      · rw [List.take_add_one, hx] at hmm
        rcases List.mem_append.1 hmm with h | h
        · exact hm m h
        · simp at h
          rw [h]
          show l0.length ≤ 60
          omega
      · (simp only [go_sem, g1, g2, hx, m5, recAV, memAV])
      · (simp only [go_sem, g1, g2, hx, m5, recAV, memAV])
      · omega
  have g1 : ¬ (k : Int) < (r.mem.length : Int) := by omega
  have hkl : k = r.mem.length := by omega
  subst hkl
  rw [List.take_length] at hm
  have hl : Lite r := ⟨by omega, by omega, by omega, by omega, fun m hmm => by have := hm m hmm; omega⟩
  have f4 := timers_bad ad mo r inst (by simp [numberB]; omega)
  have f5 := tells35_one ad mo 2 (by omega) (-1)
  have h0 : ¬ inst < 1 := by omega
  repeat (first | refine aops_op' rfl (by simp only [go_sem, g1, h, h0, recAV]; exact ⟨rfl, rfl⟩) ?_ | refine g_run ?_ | refine g_off ?_ | refine aops_call' rfl (f3) (by simp only [go_sem, g1, h, h0, recAV]; exact Is.rfl') (by simp only [go_sem, g1, h, h0, recAV]; exact ⟨rfl, rfl⟩) ?_ | refine aops_call' rfl (f4) (by simp only [go_sem, g1, h, h0, recAV]; exact Is.rfl') (by simp only [go_sem, g1, h, h0, recAV]; exact ⟨rfl, rfl⟩) ?_ | refine aops_call' rfl (f5) (by simp only [go_sem, g1, h, h0, recAV]; exact Is.rfl') (by simp only [go_sem, g1, h, h0, recAV]; exact ⟨rfl, rfl⟩) ?_ | refine aops_nil (d_end ?_) | refine aops_nil ?_ | refine awp_seq ?_ | refine g_text ?_ | refine g_draw Tryd.mixed ?_ | refine awp_block ?_ | refine awp_skip ?_ | (refine awp_exit ?_; simp only [thenA, blockA, ↓reduceIte, Nat.reduceEqDiff, reduceCtorEq]) | refine awp_yes' (by simp only [go_sem, g1, h, h0, recAV]; exact Is.rfl') ?_ | refine awp_no' (by simp only [go_sem, g1, h, h0, recAV]; exact Is.rfl') ?_)
  (refine awp_ret ?_; show (resRd _ _ _).run _ = some _; simp only [go_sem, g1, h, h0, recAV])
theorem itim_not (ad : Nat → Addr) (mo : More) (r : Rc) (ht : ∀ t ∈ r.timers, t.1.length ≤ 9223372036854775807) (inst : Int) (h1 : 1 ≤ inst) (h2 : inst ≤ 2147483647) (hr : rightB r = false) : Con Tryd.prog (errEnv ad mo) 4 [.agg (recAV r), I inst] (B true) := by
  have f3 := awake35_con (errEnv ad mo)
  refine con_of_body Tryd.func4 rfl Tryd.call4 (by rw [Tryd.ntmps4]; simp) ?_
  rw [Tryd.ntmps4, Tryd.results4]
  by_cases m1 : (60 : Int) < (r.mem.length : Int)
  · repeat (first | refine aops_op' rfl (by simp only [go_sem, m1, recAV]; exact ⟨rfl, rfl⟩) ?_ | refine g_run ?_ | refine g_off ?_ | refine aops_call' rfl (f3) (by simp only [go_sem, m1, recAV]; exact Is.rfl') (by simp only [go_sem, m1, recAV]; exact ⟨rfl, rfl⟩) ?_ | refine aops_nil (d_end ?_) | refine aops_nil ?_ | refine awp_seq ?_ | refine g_text ?_ | refine g_draw Tryd.mixed ?_ | refine awp_block ?_ | refine awp_skip ?_ | (refine awp_exit ?_; simp only [thenA, blockA, ↓reduceIte, Nat.reduceEqDiff, reduceCtorEq]) | refine awp_yes' (by simp only [go_sem, m1, recAV]; exact Is.rfl') ?_ | refine awp_no' (by simp only [go_sem, m1, recAV]; exact Is.rfl') ?_)
    (refine awp_ret ?_; show (resRd _ _ _).run _ = some _; simp only [go_sem, m1, recAV])
  by_cases m2 : (60 : Int) < (r.active.length : Int)
  · repeat (first | refine aops_op' rfl (by simp only [go_sem, m1, m2, recAV]; exact ⟨rfl, rfl⟩) ?_ | refine g_run ?_ | refine g_off ?_ | refine aops_call' rfl (f3) (by simp only [go_sem, m1, m2, recAV]; exact Is.rfl') (by simp only [go_sem, m1, m2, recAV]; exact ⟨rfl, rfl⟩) ?_ | refine aops_nil (d_end ?_) | refine aops_nil ?_ | refine awp_seq ?_ | refine g_text ?_ | refine g_draw Tryd.mixed ?_ | refine awp_block ?_ | refine awp_skip ?_ | (refine awp_exit ?_; simp only [thenA, blockA, ↓reduceIte, Nat.reduceEqDiff, reduceCtorEq]) | refine awp_yes' (by simp only [go_sem, m1, m2, recAV]; exact Is.rfl') ?_ | refine awp_no' (by simp only [go_sem, m1, m2, recAV]; exact Is.rfl') ?_)
    (refine awp_ret ?_; show (resRd _ _ _).run _ = some _; simp only [go_sem, m1, m2, recAV])
  by_cases m3 : (60 : Int) < (r.vars.length : Int)
  · repeat (first | refine aops_op' rfl (by simp only [go_sem, m1, m2, m3, recAV]; exact ⟨rfl, rfl⟩) ?_ | refine g_run ?_ | refine g_off ?_ | refine aops_call' rfl (f3) (by simp only [go_sem, m1, m2, m3, recAV]; exact Is.rfl') (by simp only [go_sem, m1, m2, m3, recAV]; exact ⟨rfl, rfl⟩) ?_ | refine aops_nil (d_end ?_) | refine aops_nil ?_ | refine awp_seq ?_ | refine g_text ?_ | refine g_draw Tryd.mixed ?_ | refine awp_block ?_ | refine awp_skip ?_ | (refine awp_exit ?_; simp only [thenA, blockA, ↓reduceIte, Nat.reduceEqDiff, reduceCtorEq]) | refine awp_yes' (by simp only [go_sem, m1, m2, m3, recAV]; exact Is.rfl') ?_ | refine awp_no' (by simp only [go_sem, m1, m2, m3, recAV]; exact Is.rfl') ?_)
    (refine awp_ret ?_; show (resRd _ _ _).run _ = some _; simp only [go_sem, m1, m2, m3, recAV])
  by_cases m4 : (60 : Int) < (r.timers.length : Int)
  · repeat (first | refine aops_op' rfl (by simp only [go_sem, m1, m2, m3, m4, recAV]; exact ⟨rfl, rfl⟩) ?_ | refine g_run ?_ | refine g_off ?_ | refine aops_call' rfl (f3) (by simp only [go_sem, m1, m2, m3, m4, recAV]; exact Is.rfl') (by simp only [go_sem, m1, m2, m3, m4, recAV]; exact ⟨rfl, rfl⟩) ?_ | refine aops_nil (d_end ?_) | refine aops_nil ?_ | refine awp_seq ?_ | refine g_text ?_ | refine g_draw Tryd.mixed ?_ | refine awp_block ?_ | refine awp_skip ?_ | (refine awp_exit ?_; simp only [thenA, blockA, ↓reduceIte, Nat.reduceEqDiff, reduceCtorEq]) | refine awp_yes' (by simp only [go_sem, m1, m2, m3, m4, recAV]; exact Is.rfl') ?_ | refine awp_no' (by simp only [go_sem, m1, m2, m3, m4, recAV]; exact Is.rfl') ?_)
    (refine awp_ret ?_; show (resRd _ _ _).run _ = some _; simp only [go_sem, m1, m2, m3, m4, recAV])
  repeat (first | refine aops_op' rfl (by simp only [go_sem, m1, m2, m3, m4, recAV]; exact ⟨rfl, rfl⟩) ?_ | refine g_run ?_ | refine g_off ?_ | refine aops_call' rfl (f3) (by simp only [go_sem, m1, m2, m3, m4, recAV]; exact Is.rfl') (by simp only [go_sem, m1, m2, m3, m4, recAV]; exact ⟨rfl, rfl⟩) ?_ | refine aops_nil (d_end ?_) | refine aops_nil ?_ | refine awp_seq ?_ | refine g_text ?_ | refine g_draw Tryd.mixed ?_ | refine awp_block ?_ | refine awp_skip ?_ | (refine awp_exit ?_; simp only [thenA, blockA, ↓reduceIte, Nat.reduceEqDiff, reduceCtorEq]) | refine awp_yes' (by simp only [go_sem, m1, m2, m3, m4, recAV]; exact Is.rfl') ?_ | refine awp_no' (by simp only [go_sem, m1, m2, m3, m4, recAV]; exact Is.rfl') ?_)
  refine awp_loopH (D := Nat) (fun k vs => [(1, I inst), (2, .loc 2 (vs 2) 0 0), (5, I k)]) (fun _ _ => [(2, ⟨8, [recAV r], 38, false⟩)]) (fun k _ _ => k ≤ r.mem.length ∧ ∀ m ∈ r.mem.take k, m.2.length ≤ 60) (fun k => r.mem.length - k) 0 ?_ ?_ ?_ ?_
  · exact ⟨Nat.zero_le _, fun m hm => by simp at hm⟩
  · (simp only [go_sem, m1, m2, m3, m4, recAV])
  · (simp only [go_sem, m1, m2, m3, m4, recAV])
  rintro k ws esc ⟨hk, hm⟩
  by_cases hlt : k < r.mem.length
  · have g1 := nlt hlt
    have g2 := wrap_succ hlt (by omega)
    obtain ⟨⟨n0, l0⟩, hx⟩ : ∃ x, r.mem[k]? = some x := ⟨r.mem[k], List.getElem?_eq_getElem hlt⟩
    by_cases m5 : (60 : Int) < (l0.length : Int)
    · repeat (first | refine aops_op' rfl (by simp only [go_sem, g1, g2, hx, m5, recAV, memAV]; exact ⟨rfl, rfl⟩) ?_ | refine g_run ?_ | refine g_off ?_ | refine aops_call' rfl (f3) (by simp only [go_sem, g1, g2, hx, m5, recAV, memAV]; exact Is.rfl') (by simp only [go_sem, g1, g2, hx, m5, recAV, memAV]; exact ⟨rfl, rfl⟩) ?_ | refine aops_nil (d_end ?_) | refine aops_nil ?_ | refine awp_seq ?_ | refine g_text ?_ | refine g_draw Tryd.mixed ?_ | refine awp_block ?_ | refine awp_skip ?_ | (refine awp_exit ?_; simp only [thenA, blockA, ↓reduceIte, Nat.reduceEqDiff, reduceCtorEq]) | refine awp_yes' (by simp only [go_sem, g1, g2, hx, m5, recAV, memAV]; exact Is.rfl') ?_ | refine awp_no' (by simp only [go_sem, g1, g2, hx, m5, recAV, memAV]; exact Is.rfl') ?_)
      (refine awp_ret ?_; show (resRd _ _ _).run _ = some _; simp only [go_sem, g1, g2, hx, m5, recAV, memAV])
    · repeat (first | refine aops_op' rfl (by simp only [go_sem, g1, g2, hx, m5, recAV, memAV]; exact ⟨rfl, rfl⟩) ?_ | refine g_run ?_ | refine g_off ?_ | refine aops_call' rfl (f3) (by simp only [go_sem, g1, g2, hx, m5, recAV, memAV]; exact Is.rfl') (by simp only [go_sem, g1, g2, hx, m5, recAV, memAV]; exact ⟨rfl, rfl⟩) ?_ | refine aops_nil (d_end ?_) | refine aops_nil ?_ | refine awp_seq ?_ | refine g_text ?_ | refine g_draw Tryd.mixed ?_ | refine awp_block ?_ | refine awp_skip ?_ | (refine awp_exit ?_; simp only [thenA, blockA, ↓reduceIte, Nat.reduceEqDiff, reduceCtorEq]) | refine awp_yes' (by simp only [go_sem, g1, g2, hx, m5, recAV, memAV]; exact Is.rfl') ?_ | refine awp_no' (by simp only [go_sem, g1, g2, hx, m5, recAV, memAV]; exact Is.rfl') ?_)
      refine ⟨k + 1, ⟨hlt, fun m hmm => ?_⟩, ?_, ?_, ?_⟩
      · rw [List.take_add_one, hx] at hmm
        rcases List.mem_append.1 hmm with h | h
        · exact hm m h
        · simp at h
          rw [h]
          show l0.length ≤ 60
          omega
      · (simp only [go_sem, g1, g2, hx, m5, recAV, memAV])
      · (simp only [go_sem, g1, g2, hx, m5, recAV, memAV])
      · omega
  have g1 : ¬ (k : Int) < (r.mem.length : Int) := by omega
  have hkl : k = r.mem.length := by omega
  subst hkl
  rw [List.take_length] at hm
  have hl : Lite r := ⟨by omega, by omega, by omega, by omega, fun m hmm => by have := hm m hmm; omega⟩
  have f4 := timers_not ad mo r hl ht inst (by simp [numberB]; omega) hr
  have f5 := tells35_two ad mo 1 (by omega) (-1) (-1)
  have f6 := w_rightR_con (errEnv ad mo) r hl
  have h0 : ¬ inst < 1 := by omega
  have h00 : ¬ 2147483647 < inst := by omega
  repeat (first | refine aops_op' rfl (by simp only [go_sem, g1, h0, h00, recAV, hr]; exact ⟨rfl, rfl⟩) ?_ | refine g_run ?_ | refine g_off ?_ | refine aops_call' rfl (f3) (by simp only [go_sem, g1, h0, h00, recAV, hr]; exact Is.rfl') (by simp only [go_sem, g1, h0, h00, recAV, hr]; exact ⟨rfl, rfl⟩) ?_ | refine aops_call' rfl (f4) (by simp only [go_sem, g1, h0, h00, recAV, hr]; exact Is.rfl') (by simp only [go_sem, g1, h0, h00, recAV, hr]; exact ⟨rfl, rfl⟩) ?_ | refine aops_call' rfl (f5) (by simp only [go_sem, g1, h0, h00, recAV, hr]; exact Is.rfl') (by simp only [go_sem, g1, h0, h00, recAV, hr]; exact ⟨rfl, rfl⟩) ?_ | refine aops_call' rfl (f6) (by simp only [go_sem, g1, h0, h00, recAV, hr]; exact Is.rfl') (by simp only [go_sem, g1, h0, h00, recAV, hr]; exact ⟨rfl, rfl⟩) ?_ | refine aops_nil (d_end ?_) | refine aops_nil ?_ | refine awp_seq ?_ | refine g_text ?_ | refine g_draw Tryd.mixed ?_ | refine awp_block ?_ | refine awp_skip ?_ | (refine awp_exit ?_; simp only [thenA, blockA, ↓reduceIte, Nat.reduceEqDiff, reduceCtorEq]) | refine awp_yes' (by simp only [go_sem, g1, h0, h00, recAV, hr]; exact Is.rfl') ?_ | refine awp_no' (by simp only [go_sem, g1, h0, h00, recAV, hr]; exact Is.rfl') ?_)
  (refine awp_ret ?_; show (resRd _ _ _).run _ = some _; simp only [go_sem, g1, h0, h00, recAV, hr])
theorem itim_yes (ad : Nat → Addr) (mo : More) (r : Rc) (ht : ∀ t ∈ r.timers, t.1.length ≤ 9223372036854775807) (inst : Nat) (h1 : 1 ≤ inst) (h2 : inst ≤ 2147483647) (hr : rightB r = true) : Con Tryd.prog (errEnv ad mo) 4 [.agg (recAV r), I inst] (B true) := by
  have f3 := awake35_con (errEnv ad mo)
  refine con_of_body Tryd.func4 rfl Tryd.call4 (by rw [Tryd.ntmps4]; simp) ?_
  rw [Tryd.ntmps4, Tryd.results4]
  by_cases m1 : (60 : Int) < (r.mem.length : Int)
  · repeat (first | refine aops_op' rfl (by simp only [go_sem, m1, recAV]; exact ⟨rfl, rfl⟩) ?_ | refine g_run ?_ | refine g_off ?_ | refine aops_call' rfl (f3) (by simp only [go_sem, m1, recAV]; exact Is.rfl') (by simp only [go_sem, m1, recAV]; exact ⟨rfl, rfl⟩) ?_ | refine aops_nil (d_end ?_) | refine aops_nil ?_ | refine awp_seq ?_ | refine g_text ?_ | refine g_draw Tryd.mixed ?_ | refine awp_block ?_ | refine awp_skip ?_ | (refine awp_exit ?_; simp only [thenA, blockA, ↓reduceIte, Nat.reduceEqDiff, reduceCtorEq]) | refine awp_yes' (by simp only [go_sem, m1, recAV]; exact Is.rfl') ?_ | refine awp_no' (by simp only [go_sem, m1, recAV]; exact Is.rfl') ?_)
    (refine awp_ret ?_; show (resRd _ _ _).run _ = some _; simp only [go_sem, m1, recAV])
  by_cases m2 : (60 : Int) < (r.active.length : Int)
  · repeat (first | refine aops_op' rfl (by simp only [go_sem, m1, m2, recAV]; exact ⟨rfl, rfl⟩) ?_ | refine g_run ?_ | refine g_off ?_ | refine aops_call' rfl (f3) (by simp only [go_sem, m1, m2, recAV]; exact Is.rfl') (by simp only [go_sem, m1, m2, recAV]; exact ⟨rfl, rfl⟩) ?_ | refine aops_nil (d_end ?_) | refine aops_nil ?_ | refine awp_seq ?_ | refine g_text ?_ | refine g_draw Tryd.mixed ?_ | refine awp_block ?_ | refine awp_skip ?_ | (refine awp_exit ?_; simp only [thenA, blockA, ↓reduceIte, Nat.reduceEqDiff, reduceCtorEq]) | refine awp_yes' (by simp only [go_sem, m1, m2, recAV]; exact Is.rfl') ?_ | refine awp_no' (by simp only [go_sem, m1, m2, recAV]; exact Is.rfl') ?_)
    (refine awp_ret ?_; show (resRd _ _ _).run _ = some _; simp only [go_sem, m1, m2, recAV])
  by_cases m3 : (60 : Int) < (r.vars.length : Int)
  · repeat (first | refine aops_op' rfl (by simp only [go_sem, m1, m2, m3, recAV]; exact ⟨rfl, rfl⟩) ?_ | refine g_run ?_ | refine g_off ?_ | refine aops_call' rfl (f3) (by simp only [go_sem, m1, m2, m3, recAV]; exact Is.rfl') (by simp only [go_sem, m1, m2, m3, recAV]; exact ⟨rfl, rfl⟩) ?_ | refine aops_nil (d_end ?_) | refine aops_nil ?_ | refine awp_seq ?_ | refine g_text ?_ | refine g_draw Tryd.mixed ?_ | refine awp_block ?_ | refine awp_skip ?_ | (refine awp_exit ?_; simp only [thenA, blockA, ↓reduceIte, Nat.reduceEqDiff, reduceCtorEq]) | refine awp_yes' (by simp only [go_sem, m1, m2, m3, recAV]; exact Is.rfl') ?_ | refine awp_no' (by simp only [go_sem, m1, m2, m3, recAV]; exact Is.rfl') ?_)
    (refine awp_ret ?_; show (resRd _ _ _).run _ = some _; simp only [go_sem, m1, m2, m3, recAV])
  by_cases m4 : (60 : Int) < (r.timers.length : Int)
  · repeat (first | refine aops_op' rfl (by simp only [go_sem, m1, m2, m3, m4, recAV]; exact ⟨rfl, rfl⟩) ?_ | refine g_run ?_ | refine g_off ?_ | refine aops_call' rfl (f3) (by simp only [go_sem, m1, m2, m3, m4, recAV]; exact Is.rfl') (by simp only [go_sem, m1, m2, m3, m4, recAV]; exact ⟨rfl, rfl⟩) ?_ | refine aops_nil (d_end ?_) | refine aops_nil ?_ | refine awp_seq ?_ | refine g_text ?_ | refine g_draw Tryd.mixed ?_ | refine awp_block ?_ | refine awp_skip ?_ | (refine awp_exit ?_; simp only [thenA, blockA, ↓reduceIte, Nat.reduceEqDiff, reduceCtorEq]) | refine awp_yes' (by simp only [go_sem, m1, m2, m3, m4, recAV]; exact Is.rfl') ?_ | refine awp_no' (by simp only [go_sem, m1, m2, m3, m4, recAV]; exact Is.rfl') ?_)
    (refine awp_ret ?_; show (resRd _ _ _).run _ = some _; simp only [go_sem, m1, m2, m3, m4, recAV])
  repeat (first | refine aops_op' rfl (by simp only [go_sem, m1, m2, m3, m4, recAV]; exact ⟨rfl, rfl⟩) ?_ | refine g_run ?_ | refine g_off ?_ | refine aops_call' rfl (f3) (by simp only [go_sem, m1, m2, m3, m4, recAV]; exact Is.rfl') (by simp only [go_sem, m1, m2, m3, m4, recAV]; exact ⟨rfl, rfl⟩) ?_ | refine aops_nil (d_end ?_) | refine aops_nil ?_ | refine awp_seq ?_ | refine g_text ?_ | refine g_draw Tryd.mixed ?_ | refine awp_block ?_ | refine awp_skip ?_ | (refine awp_exit ?_; simp only [thenA, blockA, ↓reduceIte, Nat.reduceEqDiff, reduceCtorEq]) | refine awp_yes' (by simp only [go_sem, m1, m2, m3, m4, recAV]; exact Is.rfl') ?_ | refine awp_no' (by simp only [go_sem, m1, m2, m3, m4, recAV]; exact Is.rfl') ?_)
  refine awp_loopH (D := Nat) (fun k vs => [(1, I inst), (2, .loc 2 (vs 2) 0 0), (5, I k)]) (fun _ _ => [(2, ⟨8, [recAV r], 38, false⟩)]) (fun k _ _ => k ≤ r.mem.length ∧ ∀ m ∈ r.mem.take k, m.2.length ≤ 60) (fun k => r.mem.length - k) 0 ?_ ?_ ?_ ?_
  · exact ⟨Nat.zero_le _, fun m hm => by simp at hm⟩
  · (simp only [go_sem, m1, m2, m3, m4, recAV])
  · (simp only [go_sem, m1, m2, m3, m4, recAV])
  rintro k ws esc ⟨hk, hm⟩
  by_cases hlt : k < r.mem.length
  · have g1 := nlt hlt
    have g2 := wrap_succ hlt (by omega)
    obtain ⟨⟨n0, l0⟩, hx⟩ : ∃ x, r.mem[k]? = some x := ⟨r.mem[k], List.getElem?_eq_getElem hlt⟩
    by_cases m5 : (60 : Int) < (l0.length : Int)
    · repeat (first | refine aops_op' rfl (by simp only [go_sem, g1, g2, hx, m5, recAV, memAV]; exact ⟨rfl, rfl⟩) ?_ | refine g_run ?_ | refine g_off ?_ | refine aops_call' rfl (f3) (by simp only [go_sem, g1, g2, hx, m5, recAV, memAV]; exact Is.rfl') (by simp only [go_sem, g1, g2, hx, m5, recAV, memAV]; exact ⟨rfl, rfl⟩) ?_ | refine aops_nil (d_end ?_) | refine aops_nil ?_ | refine awp_seq ?_ | refine g_text ?_ | refine g_draw Tryd.mixed ?_ | refine awp_block ?_ | refine awp_skip ?_ | (refine awp_exit ?_; simp only [thenA, blockA, ↓reduceIte, Nat.reduceEqDiff, reduceCtorEq]) | refine awp_yes' (by simp only [go_sem, g1, g2, hx, m5, recAV, memAV]; exact Is.rfl') ?_ | refine awp_no' (by simp only [go_sem, g1, g2, hx, m5, recAV, memAV]; exact Is.rfl') ?_)
      (refine awp_ret ?_; show (resRd _ _ _).run _ = some _; simp only [go_sem, g1, g2, hx, m5, recAV, memAV])
    · repeat (first | refine aops_op' rfl (by simp only [go_sem, g1, g2, hx, m5, recAV, memAV]; exact ⟨rfl, rfl⟩) ?_ | refine g_run ?_ | refine g_off ?_ | refine aops_call' rfl (f3) (by simp only [go_sem, g1, g2, hx, m5, recAV, memAV]; exact Is.rfl') (by simp only [go_sem, g1, g2, hx, m5, recAV, memAV]; exact ⟨rfl, rfl⟩) ?_ | refine aops_nil (d_end ?_) | refine aops_nil ?_ | refine awp_seq ?_ | refine g_text ?_ | refine g_draw Tryd.mixed ?_ | refine awp_block ?_ | refine awp_skip ?_ | (refine awp_exit ?_; simp only [thenA, blockA, ↓reduceIte, Nat.reduceEqDiff, reduceCtorEq]) | refine awp_yes' (by simp only [go_sem, g1, g2, hx, m5, recAV, memAV]; exact Is.rfl') ?_ | refine awp_no' (by simp only [go_sem, g1, g2, hx, m5, recAV, memAV]; exact Is.rfl') ?_)
      refine ⟨k + 1, ⟨hlt, fun m hmm => ?_⟩, ?_, ?_, ?_⟩
      · rw [List.take_add_one, hx] at hmm
        rcases List.mem_append.1 hmm with h | h
        · exact hm m h
        · simp at h
          rw [h]
          show l0.length ≤ 60
          omega
      · (simp only [go_sem, g1, g2, hx, m5, recAV, memAV])
      · (simp only [go_sem, g1, g2, hx, m5, recAV, memAV])
      · omega
  have g1 : ¬ (k : Int) < (r.mem.length : Int) := by omega
  have hkl : k = r.mem.length := by omega
  subst hkl
  rw [List.take_length] at hm
  have hl : Lite r := ⟨by omega, by omega, by omega, by omega, fun m hmm => by have := hm m hmm; omega⟩
  have f4 := timers_yes ad mo r hl ht inst h1 h2 hr
  have f6 := w_rightR_con (errEnv ad mo) r hl
  have f7 := rtimers_con (errEnv ad mo) r inst h1 h2 (okTs_of hr)
  have f8 := same12_con (errEnv ad mo) (refP (tkL inst r.timers r.timers.length)) (by have := refP_len (tkL inst r.timers r.timers.length); rw [tkL_len] at this; have := (okTs_of hr).1; omega)
  have h0 : ¬ (inst : Int) < 1 := by omega
  have h00 : ¬ 2147483647 < (inst : Int) := by omega
  repeat (first | refine aops_op' rfl (by simp only [go_sem, g1, h0, h00, recAV, hr]; exact ⟨rfl, rfl⟩) ?_ | refine g_run ?_ | refine g_off ?_ | refine aops_call' rfl (f3) (by simp only [go_sem, g1, h0, h00, recAV, hr]; exact Is.rfl') (by simp only [go_sem, g1, h0, h00, recAV, hr]; exact ⟨rfl, rfl⟩) ?_ | refine aops_call' rfl (f4) (by simp only [go_sem, g1, h0, h00, recAV, hr]; exact Is.rfl') (by simp only [go_sem, g1, h0, h00, recAV, hr]; exact ⟨rfl, rfl⟩) ?_ | refine aops_call' rfl (f6) (by simp only [go_sem, g1, h0, h00, recAV, hr]; exact Is.rfl') (by simp only [go_sem, g1, h0, h00, recAV, hr]; exact ⟨rfl, rfl⟩) ?_ | refine aops_call' rfl (f7) (by simp only [go_sem, g1, h0, h00, recAV, hr]; exact Is.rfl') (by simp only [go_sem, g1, h0, h00, recAV, hr]; exact ⟨rfl, rfl⟩) ?_ | refine aops_call' rfl (f8) (by simp only [go_sem, g1, h0, h00, recAV, hr]; exact Is.rfl') (by simp only [go_sem, g1, h0, h00, recAV, hr]; exact ⟨rfl, rfl⟩) ?_ | refine aops_nil (d_end ?_) | refine aops_nil ?_ | refine awp_seq ?_ | refine g_text ?_ | refine g_draw Tryd.mixed ?_ | refine awp_block ?_ | refine awp_skip ?_ | (refine awp_exit ?_; simp only [thenA, blockA, ↓reduceIte, Nat.reduceEqDiff, reduceCtorEq]) | refine awp_yes' (by simp only [go_sem, g1, h0, h00, recAV, hr]; exact Is.rfl') ?_ | refine awp_no' (by simp only [go_sem, g1, h0, h00, recAV, hr]; exact Is.rfl') ?_)
  (refine awp_ret ?_; show (resRd _ _ _).run _ = some _; simp only [go_sem, g1, h0, h00, recAV, hr])
theorem itim_con (ad : Nat → Addr) (mo : More) (r : Rc) (ht : ∀ t ∈ r.timers, t.1.length ≤ 9223372036854775807) (inst : Int) : Con Tryd.prog (errEnv ad mo) 4 [.agg (recAV r), I inst] (B true) := by
  by_cases h1 : inst < 1
  · exact itim_low ad mo r inst h1
  by_cases h2 : 2147483647 < inst
  · exact itim_high ad mo r inst h2
  cases hr : rightB r with
  | false => exact itim_not ad mo r ht inst (by omega) (by omega) hr
  | true =>
    obtain ⟨n, rfl⟩ : ∃ n : Nat, inst = n := ⟨inst.toNat, by omega⟩
    exact itim_yes ad mo r ht n (by omega) (by omega) hr
end Go.Proofs.YtbnanjcghhfcpaaDoor
