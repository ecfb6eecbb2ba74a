/- The document's answers about dues: Put, Same; an agenda filled, and the document's. -/
import Derived.Test.YthepkabfiooabaaDoorTN
set_option linter.unusedSimpArgs false
namespace Go.Proofs.YthepkabfiooabaaDoor
open Go.RowKit
set_option maxRecDepth 100000
set_option maxHeartbeats 4000000
attribute [local go_sem_proc ↓] reduceIte
attribute [local go_sem_proc] reduceCtorEq Nat.reduceBEq Nat.reduceAdd Nat.reduceSub Nat.reduceEqDiff Nat.reduceLT Nat.reduceLeDiff Nat.reduceMul Int.reduceToNat Int.reduceBEq Int.reduceBNe Int.reduceEq Int.reduceLT Int.reduceLE
attribute [local go_sem] ev_clear ev_makeFunc funcRd evClear List.isEmpty_cons Array.isEmpty_iff ev_makeMap ev_lookup ev_mapUpdate ev_delete evMakeMap evLookup evMapUpdate evDelete pureOf keyCmp mfind oneCells Rd.map AV.bare AV.bare.bareL AV.ofVal resRd resOne resAll HoldF HoldR Takes thenA blockA ev_move ev_assign ev_pick ev_alloc ev_box ev_build ev_buildSlice ev_load ev_store ev_binOp ev_unOp ev_convert ev_iface ev_make ev_slice ev_fieldAddr ev_field ev_indexAddr ev_index ev_extract ev_len ev_append ev_min ev_max evMin evMax gt_tmp gt_int gt_bool gt_str gt_nilS gt_nilP gt_nilI pickRd allocRd buildRd sliceRd loadRd unRd ifaceRd exRd val optRd callRd seen AV.plain adopt fzArgs Rd.run AV.asCells newBox runL Comes' Rd.row Rd.bind Out.app apps Eff.app St.renew St.setRow St.show St.put St.init upd evStore evBinR evBin eqFs eqCell evConv evSeq evLen evIndexAddr evFieldAddr evField evIndex bound evSlice evSliceF evAppend evMake loadOf fillAV fillEs fzParts fz fzCell fzCells shows isConstOp splice wrs wes Value.oneCell' List.getD_cons_zero List.getD_cons_succ List.getD_nil List.length_cons List.length_nil List.map_cons List.map_nil List.nil_append List.cons_append List.all_cons List.all_nil List.getElem?_cons_zero List.getElem?_cons_succ List.set_cons_zero List.set_cons_succ List.take_succ_cons List.take_zero List.drop_succ_cons List.drop_zero List.take_nil List.drop_nil List.replicate_succ List.replicate_zero Bool.and_true Bool.true_and Bool.and_self and_self true_and and_true Nat.zero_add Nat.add_zero Option.some.injEq Nat.zero_lt_succ Bool.not_true Bool.not_false ne_eq not_true_eq_false not_false_eq_true Option.map_some Option.map_none List.toList_toArray head headF headR List.length_map Int.toNat_natCast Int.natCast_nonneg List.getElem?_map decide_true decide_false Bool.false_eq_true if_true if_false Bool.or_self Bool.or_true Bool.true_or Bool.false_or Bool.or_false Bool.and_false Bool.false_and List.flatten_cons List.flatten_nil List.append_nil nat0 or_self or_false false_or or_true true_or and_false false_and List.length_append List.isEmpty_nil bne_self_eq_false beq_self_eq_true fits_small strL_l bytesOf_map wants Int.cast_ofNat_Int gt_iff_lt ge_iff_le
attribute [local go_sem ←] List.map_drop List.map_take
attribute [local go_sem] nilRd ev_nilCheck tmpsAre resI resIs cellRd HoldI toRL toKL gin gout nout vin grownR lay AV.ren AV.ren.renL Row.ren headR Option.bind_some Option.bind_none Option.isSome_some Option.isSome_none Option.getD_some Bool.true_eq_false PreOk PostOk EscOk wrs wes List.cons.injEq Prod.mk.injEq forall_const

/-- The document's Put: the dues behind it, is it new, the code. -/
def putW (w : List Due) (d : Due) : List Due × Bool × Int := if rightD d = true then
    (if (!decide ((dropW w (keyD d)).length < w.length) && decide (1024 ≤ w.length)) = true then (w, false, 8) else (addW (dropW w (keyD d)) d, !decide ((dropW w (keyD d)).length < w.length), 0))
  else (w, false, 1)
theorem rput_con (env : Env) (w : List Due) (d : Due) (hw : w.length ≤ 4000) : Con Tryd.prog env 25 [dues w, .agg (dueC d)] (.tuple [dues (putW w d).1, B (putW w d).2.1, I (putW w d).2.2]) := by
  have f1 := rright_con env d
  have f2 := rdrop_con env w d.inst d.name hw
  have f3 := radd_con env (dropW w (keyD d)) d (Nat.le_trans (List.length_filter_le _ _) hw)
  unfold putW
  cases hr : rightD d with
  | false =>
    rw [hr] at f1
    simp only [Bool.false_eq_true, if_false]
    refine con_of_body Tryd.func25 rfl Tryd.call25 (by rw [Tryd.ntmps25]; simp) ?_
    rw [Tryd.ntmps25, Tryd.results25]
    repeat (first | refine aops_op' rfl (by simp only [go_sem, dueC]; exact ⟨rfl, rfl⟩) ?_ | refine g_run ?_ | refine g_off ?_ | refine aops_call' rfl (f1) (by simp only [go_sem, dueC]; exact Is.rfl') (by simp only [go_sem, dueC]; exact ⟨rfl, rfl⟩) ?_ | refine aops_nil (d_end ?_) | refine aops_nil ?_ | refine awp_seq ?_ | refine g_text ?_ | refine g_draw Tryd.mixed ?_ | refine awp_block ?_ | refine awp_skip ?_ | (refine awp_exit ?_; simp only [thenA, blockA, ↓reduceIte, Nat.reduceEqDiff, reduceCtorEq]) | refine awp_yes' (by simp only [go_sem, dueC]; exact Is.rfl') ?_ | refine awp_no' (by simp only [go_sem, dueC]; exact Is.rfl') ?_)
    (refine awp_ret ?_; show (resRd _ _ _).run _ = some _; simp only [go_sem, dueC])
  | true =>
    rw [hr] at f1
    simp only [if_true]
    rw [show dropW w (d.inst, d.name) = dropW w (keyD d) from rfl] at f2
    cases hb : decide ((dropW w (keyD d)).length < w.length) with
    | true =>
      rw [hb] at f2
      simp only [Bool.not_true, Bool.false_and, Bool.false_eq_true, if_false]
      refine con_of_body Tryd.func25 rfl Tryd.call25 (by rw [Tryd.ntmps25]; simp) ?_
      rw [Tryd.ntmps25, Tryd.results25]
      repeat (first | refine aops_op' rfl (by simp only [go_sem, dueC]; exact ⟨rfl, rfl⟩) ?_ | refine g_run ?_ | refine g_off ?_ | refine aops_call' rfl (f1) (by simp only [go_sem, dueC]; exact Is.rfl') (by simp only [go_sem, dueC]; exact ⟨rfl, rfl⟩) ?_ | refine aops_call' rfl (f2) (by simp only [go_sem, dueC]; exact Is.rfl') (by simp only [go_sem, dueC]; exact ⟨rfl, rfl⟩) ?_ | refine aops_call' rfl (f3) (by simp only [go_sem, dueC]; exact Is.rfl') (by simp only [go_sem, dueC]; exact ⟨rfl, rfl⟩) ?_ | refine aops_nil (d_end ?_) | refine aops_nil ?_ | refine awp_seq ?_ | refine g_text ?_ | refine g_draw Tryd.mixed ?_ | refine awp_block ?_ | refine awp_skip ?_ | (refine awp_exit ?_; simp only [thenA, blockA, ↓reduceIte, Nat.reduceEqDiff, reduceCtorEq]) | refine awp_yes' (by simp only [go_sem, dueC]; exact Is.rfl') ?_ | refine awp_no' (by simp only [go_sem, dueC]; exact Is.rfl') ?_)
      (refine awp_ret ?_; show (resRd _ _ _).run _ = some _; simp only [go_sem, dueC])
    | false =>
      rw [hb] at f2
      by_cases hl : 1024 ≤ w.length
      · have g1 : (1024 : Int) ≤ (w.length : Int) := by omega
        simp only [Bool.not_false, Bool.true_and, hl, decide_true, if_true]
        refine con_of_body Tryd.func25 rfl Tryd.call25 (by rw [Tryd.ntmps25]; simp) ?_
        rw [Tryd.ntmps25, Tryd.results25]
        repeat (first | refine aops_op' rfl (by simp only [go_sem, dueC, g1]; exact ⟨rfl, rfl⟩) ?_ | refine g_run ?_ | refine g_off ?_ | refine aops_call' rfl (f1) (by simp only [go_sem, dueC, g1]; exact Is.rfl') (by simp only [go_sem, dueC, g1]; exact ⟨rfl, rfl⟩) ?_ | refine aops_call' rfl (f2) (by simp only [go_sem, dueC, g1]; exact Is.rfl') (by simp only [go_sem, dueC, g1]; exact ⟨rfl, rfl⟩) ?_ | refine aops_call' rfl (f3) (by simp only [go_sem, dueC, g1]; exact Is.rfl') (by simp only [go_sem, dueC, g1]; exact ⟨rfl, rfl⟩) ?_ | refine aops_nil (d_end ?_) | refine aops_nil ?_ | refine awp_seq ?_ | refine g_text ?_ | refine g_draw Tryd.mixed ?_ | refine awp_block ?_ | refine awp_skip ?_ | (refine awp_exit ?_; simp only [thenA, blockA, ↓reduceIte, Nat.reduceEqDiff, reduceCtorEq]) | refine awp_yes' (by simp only [go_sem, dueC, g1]; exact Is.rfl') ?_ | refine awp_no' (by simp only [go_sem, dueC, g1]; exact Is.rfl') ?_)
        (refine awp_ret ?_; show (resRd _ _ _).run _ = some _; simp only [go_sem, dueC, g1])
      · have g1 : ¬ (1024 : Int) ≤ (w.length : Int) := by omega
        simp only [Bool.not_false, Bool.true_and, hl, decide_false, Bool.false_eq_true, if_false]
        refine con_of_body Tryd.func25 rfl Tryd.call25 (by rw [Tryd.ntmps25]; simp) ?_
        rw [Tryd.ntmps25, Tryd.results25]
        repeat (first | refine aops_op' rfl (by simp only [go_sem, dueC, g1]; exact ⟨rfl, rfl⟩) ?_ | refine g_run ?_ | refine g_off ?_ | refine aops_call' rfl (f1) (by simp only [go_sem, dueC, g1]; exact Is.rfl') (by simp only [go_sem, dueC, g1]; exact ⟨rfl, rfl⟩) ?_ | refine aops_call' rfl (f2) (by simp only [go_sem, dueC, g1]; exact Is.rfl') (by simp only [go_sem, dueC, g1]; exact ⟨rfl, rfl⟩) ?_ | refine aops_call' rfl (f3) (by simp only [go_sem, dueC, g1]; exact Is.rfl') (by simp only [go_sem, dueC, g1]; exact ⟨rfl, rfl⟩) ?_ | refine aops_nil (d_end ?_) | refine aops_nil ?_ | refine awp_seq ?_ | refine g_text ?_ | refine g_draw Tryd.mixed ?_ | refine awp_block ?_ | refine awp_skip ?_ | (refine awp_exit ?_; simp only [thenA, blockA, ↓reduceIte, Nat.reduceEqDiff, reduceCtorEq]) | refine awp_yes' (by simp only [go_sem, dueC, g1]; exact Is.rfl') ?_ | refine awp_no' (by simp only [go_sem, dueC, g1]; exact Is.rfl') ?_)
        (refine awp_ret ?_; show (resRd _ _ _).run _ = some _; simp only [go_sem, dueC, g1])
theorem rsame_con (env : Env) (w : List Due) (hw : w.length ≤ 4000) : Con Tryd.prog env 11 [dues w, dues w] (B true) := by
  refine con_of_body Tryd.func11 rfl Tryd.call11 (by rw [Tryd.ntmps11]; simp) ?_
  rw [Tryd.ntmps11, Tryd.results11]
  repeat (first | refine aops_op' rfl (by simp only [go_sem]; exact ⟨rfl, rfl⟩) ?_ | refine g_run ?_ | refine g_off ?_ | refine aops_nil (d_end ?_) | refine aops_nil ?_ | refine awp_seq ?_ | refine g_text ?_ | refine g_draw Tryd.mixed ?_ | refine awp_block ?_ | refine awp_skip ?_ | (refine awp_exit ?_; simp only [thenA, blockA, ↓reduceIte, Nat.reduceEqDiff, reduceCtorEq]) | refine awp_yes' (by simp only [go_sem]; exact Is.rfl') ?_ | refine awp_no' (by simp only [go_sem]; exact Is.rfl') ?_)
  refine awp_loopH (D := Nat) (fun n _ => [(0, dues w), (1, dues w), (5, I n)]) (fun _ _ => []) (fun n _ _ => n ≤ w.length) (fun n => w.length - n) 0 ?_ ?_ ?_ ?_
  · exact Nat.zero_le _
  · (simp only [go_sem])
  · (simp only [go_sem])
  rintro n vs esc hn
  by_cases hlt : n < w.length
  · obtain ⟨d, hd⟩ : ∃ x, w[n]? = some x := ⟨w[n], List.getElem?_eq_getElem hlt⟩
    have g1 := nlt hlt
    have g2 := wrap_succ hlt (by omega)
    repeat (first | refine aops_op' rfl (by simp only [go_sem, dueC, hd, g1, g2]; exact ⟨rfl, rfl⟩) ?_ | refine g_run ?_ | refine g_off ?_ | refine aops_nil (d_end ?_) | refine aops_nil ?_ | refine awp_seq ?_ | refine g_text ?_ | refine g_draw Tryd.mixed ?_ | refine awp_block ?_ | refine awp_skip ?_ | (refine awp_exit ?_; simp only [thenA, blockA, ↓reduceIte, Nat.reduceEqDiff, reduceCtorEq]) | refine awp_yes' (by simp only [go_sem, dueC, hd, g1, g2]; exact Is.rfl') ?_ | refine awp_no' (by simp only [go_sem, dueC, hd, g1, g2]; exact Is.rfl') ?_)
    refine ⟨n + 1, hlt, ?_, ?_, ?_⟩
    · (simp only [go_sem, dueC, hd, g1, g2])
    · (simp only [go_sem, dueC, hd, g1, g2])
    · omega
  · have g1 : ¬ (n : Int) < (w.length : Int) := by omega
    repeat (first | refine aops_op' rfl (by simp only [go_sem, g1]; exact ⟨rfl, rfl⟩) ?_ | refine g_run ?_ | refine g_off ?_ | refine aops_nil (d_end ?_) | refine aops_nil ?_ | refine awp_seq ?_ | refine g_text ?_ | refine g_draw Tryd.mixed ?_ | refine awp_block ?_ | refine awp_skip ?_ | (refine awp_exit ?_; simp only [thenA, blockA, ↓reduceIte, Nat.reduceEqDiff, reduceCtorEq]) | refine awp_yes' (by simp only [go_sem, g1]; exact Is.rfl') ?_ | refine awp_no' (by simp only [go_sem, g1]; exact Is.rfl') ?_)
    (refine awp_ret ?_; show (resRd _ _ _).run _ = some _; simp only [go_sem, g1])
end Go.Proofs.YthepkabfiooabaaDoor
