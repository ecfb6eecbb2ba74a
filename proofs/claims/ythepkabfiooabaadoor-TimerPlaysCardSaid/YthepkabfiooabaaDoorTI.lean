/- An agenda as rows: pull. -/
import Derived.Test.YthepkabfiooabaaDoorTQ
set_option linter.unusedSimpArgs false
namespace Go.Proofs.YthepkabfiooabaaDoor
open Go.RowKit
set_option maxRecDepth 100000
set_option maxHeartbeats 4000000
attribute [local go_sem_proc ↓] reduceIte
attribute [local go_sem_proc] reduceCtorEq Nat.reduceBEq Nat.reduceAdd Nat.reduceSub Nat.reduceEqDiff Nat.reduceLT Nat.reduceLeDiff Nat.reduceMul Int.reduceToNat Int.reduceBEq Int.reduceBNe Int.reduceEq Int.reduceLT Int.reduceLE
attribute [local go_sem] ev_clear ev_makeFunc funcRd evClear List.isEmpty_cons Array.isEmpty_iff ev_makeMap ev_lookup ev_mapUpdate ev_delete evMakeMap evLookup evMapUpdate evDelete pureOf keyCmp mfind oneCells Rd.map AV.bare AV.bare.bareL AV.ofVal resRd resOne resAll HoldF HoldR Takes thenA blockA ev_move ev_assign ev_pick ev_alloc ev_box ev_build ev_buildSlice ev_load ev_store ev_binOp ev_unOp ev_convert ev_iface ev_make ev_slice ev_fieldAddr ev_field ev_indexAddr ev_index ev_extract ev_len ev_append ev_min ev_max evMin evMax gt_tmp gt_int gt_bool gt_str gt_nilS gt_nilP gt_nilI pickRd allocRd buildRd sliceRd loadRd unRd ifaceRd exRd val optRd callRd seen AV.plain adopt fzArgs Rd.run AV.asCells newBox runL Comes' Rd.row Rd.bind Out.app apps Eff.app St.renew St.setRow St.show St.put St.init upd evStore evBinR evBin eqFs eqCell evConv evSeq evLen evIndexAddr evFieldAddr evField evIndex bound evSlice evSliceF evAppend evMake loadOf fillAV fillEs fzParts fz fzCell fzCells shows isConstOp splice wrs wes Value.oneCell' List.getD_cons_zero List.getD_cons_succ List.getD_nil List.length_cons List.length_nil List.map_cons List.map_nil List.nil_append List.cons_append List.all_cons List.all_nil List.getElem?_cons_zero List.getElem?_cons_succ List.set_cons_zero List.set_cons_succ List.take_succ_cons List.take_zero List.drop_succ_cons List.drop_zero List.take_nil List.drop_nil List.replicate_succ List.replicate_zero Bool.and_true Bool.true_and Bool.and_self and_self true_and and_true Nat.zero_add Nat.add_zero Option.some.injEq Nat.zero_lt_succ Bool.not_true Bool.not_false ne_eq not_true_eq_false not_false_eq_true Option.map_some Option.map_none List.toList_toArray head headF headR List.length_map Int.toNat_natCast Int.natCast_nonneg List.getElem?_map decide_true decide_false Bool.false_eq_true if_true if_false Bool.or_self Bool.or_true Bool.true_or Bool.false_or Bool.or_false Bool.and_false Bool.false_and List.flatten_cons List.flatten_nil List.append_nil nat0 or_self or_false false_or or_true true_or and_false false_and List.length_append List.isEmpty_nil bne_self_eq_false beq_self_eq_true fits_small strL_l bytesOf_map wants Int.cast_ofNat_Int gt_iff_lt ge_iff_le
attribute [local go_sem ←] List.map_drop List.map_take
attribute [local go_sem] nilRd ev_nilCheck tmpsAre resI resIs cellRd HoldI toRL toKL gin gout nout vin grownR lay AV.ren AV.ren.renL Row.ren headR Option.bind_some Option.bind_none Option.isSome_some Option.isSome_none Option.getD_some Bool.true_eq_false PreOk PostOk EscOk wrs wes List.cons.injEq Prod.mk.injEq forall_const

theorem erase_map {α β : Type} (f : α → β) : ∀ (l : List α) (j : Nat), (l.map f).eraseIdx j = (l.eraseIdx j).map f
  | [], _ => rfl
  | _ :: _, 0 => rfl
  | x :: l, j + 1 => by simp only [List.map_cons, List.eraseIdx_cons_succ, erase_map f l j]
theorem swap_idx {l : List Due} {M : Mp} {i : Nat} {d y : Due} (h : AgOk l M) (h0 : l[i]? = some d) (h1 : l[l.length - 1]? = some y) : ∃ j, idxM (d.inst, d.name) (swapM M i (l.length - 1) d y) 0 = some j ∧ ((swapM M i (l.length - 1) d y).map encM).eraseIdx j = (cutM l M i d y).map encM := by
  have hs := h.c.swap h0 h1
  have hi := (List.getElem?_eq_some_iff.1 h0).1
  have hf := hs.find (show (swapL l i (l.length - 1) d y)[l.length - 1]? = some d by rw [swapL_at hi (by omega), if_pos rfl])
  obtain ⟨j, h2, h3⟩ := look_some hf
  refine ⟨j, h2, ?_⟩
  unfold cutM delM
  rw [h2]
  exact erase_map encM _ j
theorem pull_con (env : Env) (i : Nat) (l : List Due) (M : Mp) (d : Due) (h : AgOk l M) (h0 : l[i]? = some d) (hl : l.length ≤ 4096) : ConI Tryd.prog env 40 [1000, 1001, 1002] (fun k => k == 1001) (fun g => [.loc 1000 (g 1000) 0 0, I i]) (fun g => AG g l M) (fun g => AG g (pullR l M i).1 (pullR l M i).2) (fun _ => .agg (dueC d)) := by
  have hi := (List.getElem?_eq_some_iff.1 h0).1
  obtain ⟨y, h1⟩ : ∃ y, l[l.length - 1]? = some y := ⟨l[l.length - 1], List.getElem?_eq_getElem (by omega)⟩
  obtain ⟨j, hj, herase⟩ := swap_idx h h0 h1
  have hm1 := mfind_M (d.inst, d.name) (swapM M i (l.length - 1) d y) 0
  rw [hj] at hm1
  simp only at hm1
  have f0 := tkey_con env d
  have f1 := swap_con env i (l.length - 1) d y l M h0 h1
  have g1 : ((i : Nat) : Int) < (l.length : Int) := by omega
  have g2 : IntKind.i64.wrap ((l.length : Int) - 1) = ((l.length - 1 : Nat) : Int) := by rw [wrap_in (by omega) (by omega)]; omega
  have g3 : ((l.length - 1 : Nat) : Int) ≤ (l.length : Int) := by omega
  have g4 := swapL_len l i (l.length - 1) d y
  have hcut : (swapL l i (l.length - 1) d y).take (l.length - 1) = cutL l i d y := rfl
  have hclen := cut_len (l := l) (i := i) (d := d) (y := y)
  by_cases hlt : i < l.length - 1
  · obtain ⟨p, p1, p2, p3, p4⟩ := pull_mid h h0 h1 hlt
    have hp : pullR l M i = downS (upS (cutL l i d y) (cutM l M i d y) i).1 (upS (cutL l i d y) (cutM l M i d y) i).2 p := by
      unfold pullR
      rw [h0, h1]
      simp only [if_pos hlt, p1, Option.getD_some, Int.toNat_natCast]
    rw [hp]
    obtain ⟨q, q1, q2⟩ := look_some p1
    have hm2 := mfind_M (y.inst, y.name) (upS (cutL l i d y) (cutM l M i d y) i).2 0
    rw [show idxM (y.inst, y.name) (upS (cutL l i d y) (cutM l M i d y) i).2 0 = some q from q1] at hm2
    simp only at hm2
    have f2 := tkey_con env y
    have f3 := up_con env i (cutL l i d y) (cutM l M i d y) (by rw [hclen]; exact hlt) (by rw [hclen]; omega)
    have f4 := down_con env p (upS (cutL l i d y) (cutM l M i d y) i).1 (upS (cutL l i d y) (cutM l M i d y) i).2 p2 (by rw [p3]; omega)
    generalize hu : upS (cutL l i d y) (cutM l M i d y) i = u at *
    have g5 : ((i : Nat) : Int) < ((l.length - 1 : Nat) : Int) := by omega
    refine ⟨Tryd.call40, _, _, Tryd.func40, rfl, (by intro _; rw [Tryd.ntmps40]; simp), ?_⟩
    intro vs esc hesc
    rw [Tryd.ntmps40, Tryd.results40]
    have e0 := hesc 1000 (by simp)
    have e1 := hesc 1001 (by simp)
    have e2 := hesc 1002 (by simp)
    repeat (first | refine aops_op' rfl (by simp only [go_sem, AG, dueC, keyC, encM, keyD, e0, e1, e2, g1, g2, g3, g4, g5, hcut, hclen, h0, hm1, herase, p4, hm2, q2, hu]; exact ⟨rfl, rfl⟩) ?_ | refine g_run ?_ | refine g_off ?_ | refine aops_call' rfl (f0) (by simp only [go_sem, AG, dueC, keyC, encM, keyD, e0, e1, e2, g1, g2, g3, g4, g5, hcut, hclen, h0, hm1, herase, p4, hm2, q2, hu]; exact Is.rfl') (by simp only [go_sem, AG, dueC, keyC, encM, keyD, e0, e1, e2, g1, g2, g3, g4, g5, hcut, hclen, h0, hm1, herase, p4, hm2, q2, hu]; exact ⟨rfl, rfl⟩) ?_ | refine aops_call' rfl (f2) (by simp only [go_sem, AG, dueC, keyC, encM, keyD, e0, e1, e2, g1, g2, g3, g4, g5, hcut, hclen, h0, hm1, herase, p4, hm2, q2, hu]; exact Is.rfl') (by simp only [go_sem, AG, dueC, keyC, encM, keyD, e0, e1, e2, g1, g2, g3, g4, g5, hcut, hclen, h0, hm1, herase, p4, hm2, q2, hu]; exact ⟨rfl, rfl⟩) ?_ | refine aops_nil (d_end ?_) | refine aops_nil ?_ | refine awp_seq ?_ | refine g_text ?_ | refine g_draw Tryd.mixed ?_ | refine awp_block ?_ | refine awp_skip ?_ | (refine awp_exit ?_; simp only [thenA, blockA, ↓reduceIte, Nat.reduceEqDiff, reduceCtorEq]) | refine awp_yes' (by simp only [go_sem, AG, dueC, keyC, encM, keyD, e0, e1, e2, g1, g2, g3, g4, g5, hcut, hclen, h0, hm1, herase, p4, hm2, q2, hu]; exact Is.rfl') ?_ | refine awp_no' (by simp only [go_sem, AG, dueC, keyC, encM, keyD, e0, e1, e2, g1, g2, g3, g4, g5, hcut, hclen, h0, hm1, herase, p4, hm2, q2, hu]; exact Is.rfl') ?_)
    refine aops_inl [(1000, 1000), (1001, 1001), (1002, 1002)] rfl (f1) (by decide) (by decide) (by simp only [go_sem, AG, dueC, keyC, encM, keyD, e0, e1, e2, g1, g2, g3, g4, g5, hcut, hclen, h0, hm1, herase, p4, hm2, q2, hu] <;> rfl) (by simp only [go_sem, AG, dueC, keyC, encM, keyD, e0, e1, e2, g1, g2, g3, g4, g5, hcut, hclen, h0, hm1, herase, p4, hm2, q2, hu, and_self] <;> trivial) (by simp only [go_sem, AG, dueC, keyC, encM, keyD, e0, e1, e2, g1, g2, g3, g4, g5, hcut, hclen, h0, hm1, herase, p4, hm2, q2, hu, and_self] <;> trivial) (by intro o; simp only [go_sem, AG, dueC, keyC, encM, keyD, e0, e1, e2, g1, g2, g3, g4, g5, hcut, hclen, h0, hm1, herase, p4, hm2, q2, hu, behind, and_self] <;> trivial) (by intro o; simp only [go_sem, AG, dueC, keyC, encM, keyD, e0, e1, e2, g1, g2, g3, g4, g5, hcut, hclen, h0, hm1, herase, p4, hm2, q2, hu] <;> rfl) (by simp only [go_sem, AG, dueC, keyC, encM, keyD, e0, e1, e2, g1, g2, g3, g4, g5, hcut, hclen, h0, hm1, herase, p4, hm2, q2, hu, behind]; exact Is.rfl') (by simp only [go_sem, AG, dueC, keyC, encM, keyD, e0, e1, e2, g1, g2, g3, g4, g5, hcut, hclen, h0, hm1, herase, p4, hm2, q2, hu, behind]; exact Is.rfl') ?_
    repeat (first | refine aops_op' rfl (by simp only [go_sem, AG, dueC, keyC, encM, keyD, e0, e1, e2, g1, g2, g3, g4, g5, hcut, hclen, h0, hm1, herase, p4, hm2, q2, hu]; exact ⟨rfl, rfl⟩) ?_ | refine g_run ?_ | refine g_off ?_ | refine aops_call' rfl (f0) (by simp only [go_sem, AG, dueC, keyC, encM, keyD, e0, e1, e2, g1, g2, g3, g4, g5, hcut, hclen, h0, hm1, herase, p4, hm2, q2, hu]; exact Is.rfl') (by simp only [go_sem, AG, dueC, keyC, encM, keyD, e0, e1, e2, g1, g2, g3, g4, g5, hcut, hclen, h0, hm1, herase, p4, hm2, q2, hu]; exact ⟨rfl, rfl⟩) ?_ | refine aops_call' rfl (f2) (by simp only [go_sem, AG, dueC, keyC, encM, keyD, e0, e1, e2, g1, g2, g3, g4, g5, hcut, hclen, h0, hm1, herase, p4, hm2, q2, hu]; exact Is.rfl') (by simp only [go_sem, AG, dueC, keyC, encM, keyD, e0, e1, e2, g1, g2, g3, g4, g5, hcut, hclen, h0, hm1, herase, p4, hm2, q2, hu]; exact ⟨rfl, rfl⟩) ?_ | refine aops_nil (d_end ?_) | refine aops_nil ?_ | refine awp_seq ?_ | refine g_text ?_ | refine g_draw Tryd.mixed ?_ | refine awp_block ?_ | refine awp_skip ?_ | (refine awp_exit ?_; simp only [thenA, blockA, ↓reduceIte, Nat.reduceEqDiff, reduceCtorEq]) | refine awp_yes' (by simp only [go_sem, AG, dueC, keyC, encM, keyD, e0, e1, e2, g1, g2, g3, g4, g5, hcut, hclen, h0, hm1, herase, p4, hm2, q2, hu]; exact Is.rfl') ?_ | refine awp_no' (by simp only [go_sem, AG, dueC, keyC, encM, keyD, e0, e1, e2, g1, g2, g3, g4, g5, hcut, hclen, h0, hm1, herase, p4, hm2, q2, hu]; exact Is.rfl') ?_)
    refine aops_inl [(1000, 1000), (1001, 1001), (1002, 1002)] rfl (f3) (by decide) (by decide) (by simp only [go_sem, AG, dueC, keyC, encM, keyD, e0, e1, e2, g1, g2, g3, g4, g5, hcut, hclen, h0, hm1, herase, p4, hm2, q2, hu] <;> rfl) (by simp only [go_sem, AG, dueC, keyC, encM, keyD, e0, e1, e2, g1, g2, g3, g4, g5, hcut, hclen, h0, hm1, herase, p4, hm2, q2, hu, and_self] <;> trivial) (by simp only [go_sem, AG, dueC, keyC, encM, keyD, e0, e1, e2, g1, g2, g3, g4, g5, hcut, hclen, h0, hm1, herase, p4, hm2, q2, hu, and_self] <;> trivial) (by intro o; simp only [go_sem, AG, dueC, keyC, encM, keyD, e0, e1, e2, g1, g2, g3, g4, g5, hcut, hclen, h0, hm1, herase, p4, hm2, q2, hu, behind, and_self] <;> trivial) (by intro o; simp only [go_sem, AG, dueC, keyC, encM, keyD, e0, e1, e2, g1, g2, g3, g4, g5, hcut, hclen, h0, hm1, herase, p4, hm2, q2, hu] <;> rfl) (by simp only [go_sem, AG, dueC, keyC, encM, keyD, e0, e1, e2, g1, g2, g3, g4, g5, hcut, hclen, h0, hm1, herase, p4, hm2, q2, hu, behind]; exact Is.rfl') (by simp only [go_sem, AG, dueC, keyC, encM, keyD, e0, e1, e2, g1, g2, g3, g4, g5, hcut, hclen, h0, hm1, herase, p4, hm2, q2, hu, behind]; exact Is.rfl') ?_
    repeat (first | refine aops_op' rfl (by simp only [go_sem, AG, dueC, keyC, encM, keyD, e0, e1, e2, g1, g2, g3, g4, g5, hcut, hclen, h0, hm1, herase, p4, hm2, q2, hu]; exact ⟨rfl, rfl⟩) ?_ | refine g_run ?_ | refine g_off ?_ | refine aops_call' rfl (f0) (by simp only [go_sem, AG, dueC, keyC, encM, keyD, e0, e1, e2, g1, g2, g3, g4, g5, hcut, hclen, h0, hm1, herase, p4, hm2, q2, hu]; exact Is.rfl') (by simp only [go_sem, AG, dueC, keyC, encM, keyD, e0, e1, e2, g1, g2, g3, g4, g5, hcut, hclen, h0, hm1, herase, p4, hm2, q2, hu]; exact ⟨rfl, rfl⟩) ?_ | refine aops_call' rfl (f2) (by simp only [go_sem, AG, dueC, keyC, encM, keyD, e0, e1, e2, g1, g2, g3, g4, g5, hcut, hclen, h0, hm1, herase, p4, hm2, q2, hu]; exact Is.rfl') (by simp only [go_sem, AG, dueC, keyC, encM, keyD, e0, e1, e2, g1, g2, g3, g4, g5, hcut, hclen, h0, hm1, herase, p4, hm2, q2, hu]; exact ⟨rfl, rfl⟩) ?_ | refine aops_nil (d_end ?_) | refine aops_nil ?_ | refine awp_seq ?_ | refine g_text ?_ | refine g_draw Tryd.mixed ?_ | refine awp_block ?_ | refine awp_skip ?_ | (refine awp_exit ?_; simp only [thenA, blockA, ↓reduceIte, Nat.reduceEqDiff, reduceCtorEq]) | refine awp_yes' (by simp only [go_sem, AG, dueC, keyC, encM, keyD, e0, e1, e2, g1, g2, g3, g4, g5, hcut, hclen, h0, hm1, herase, p4, hm2, q2, hu]; exact Is.rfl') ?_ | refine awp_no' (by simp only [go_sem, AG, dueC, keyC, encM, keyD, e0, e1, e2, g1, g2, g3, g4, g5, hcut, hclen, h0, hm1, herase, p4, hm2, q2, hu]; exact Is.rfl') ?_)
    refine aops_inl [(1000, 1000), (1001, 1001), (1002, 1002)] rfl (f4) (by decide) (by decide) (by simp only [go_sem, AG, dueC, keyC, encM, keyD, e0, e1, e2, g1, g2, g3, g4, g5, hcut, hclen, h0, hm1, herase, p4, hm2, q2, hu] <;> rfl) (by simp only [go_sem, AG, dueC, keyC, encM, keyD, e0, e1, e2, g1, g2, g3, g4, g5, hcut, hclen, h0, hm1, herase, p4, hm2, q2, hu, and_self] <;> trivial) (by simp only [go_sem, AG, dueC, keyC, encM, keyD, e0, e1, e2, g1, g2, g3, g4, g5, hcut, hclen, h0, hm1, herase, p4, hm2, q2, hu, and_self] <;> trivial) (by intro o; simp only [go_sem, AG, dueC, keyC, encM, keyD, e0, e1, e2, g1, g2, g3, g4, g5, hcut, hclen, h0, hm1, herase, p4, hm2, q2, hu, behind, and_self] <;> trivial) (by intro o; simp only [go_sem, AG, dueC, keyC, encM, keyD, e0, e1, e2, g1, g2, g3, g4, g5, hcut, hclen, h0, hm1, herase, p4, hm2, q2, hu] <;> rfl) (by simp only [go_sem, AG, dueC, keyC, encM, keyD, e0, e1, e2, g1, g2, g3, g4, g5, hcut, hclen, h0, hm1, herase, p4, hm2, q2, hu, behind]; exact Is.rfl') (by simp only [go_sem, AG, dueC, keyC, encM, keyD, e0, e1, e2, g1, g2, g3, g4, g5, hcut, hclen, h0, hm1, herase, p4, hm2, q2, hu, behind]; exact Is.rfl') ?_
    repeat (first | refine aops_op' rfl (by simp only [go_sem, AG, dueC, keyC, encM, keyD, e0, e1, e2, g1, g2, g3, g4, g5, hcut, hclen, h0, hm1, herase, p4, hm2, q2, hu]; exact ⟨rfl, rfl⟩) ?_ | refine g_run ?_ | refine g_off ?_ | refine aops_call' rfl (f0) (by simp only [go_sem, AG, dueC, keyC, encM, keyD, e0, e1, e2, g1, g2, g3, g4, g5, hcut, hclen, h0, hm1, herase, p4, hm2, q2, hu]; exact Is.rfl') (by simp only [go_sem, AG, dueC, keyC, encM, keyD, e0, e1, e2, g1, g2, g3, g4, g5, hcut, hclen, h0, hm1, herase, p4, hm2, q2, hu]; exact ⟨rfl, rfl⟩) ?_ | refine aops_call' rfl (f2) (by simp only [go_sem, AG, dueC, keyC, encM, keyD, e0, e1, e2, g1, g2, g3, g4, g5, hcut, hclen, h0, hm1, herase, p4, hm2, q2, hu]; exact Is.rfl') (by simp only [go_sem, AG, dueC, keyC, encM, keyD, e0, e1, e2, g1, g2, g3, g4, g5, hcut, hclen, h0, hm1, herase, p4, hm2, q2, hu]; exact ⟨rfl, rfl⟩) ?_ | refine aops_nil (d_end ?_) | refine aops_nil ?_ | refine awp_seq ?_ | refine g_text ?_ | refine g_draw Tryd.mixed ?_ | refine awp_block ?_ | refine awp_skip ?_ | (refine awp_exit ?_; simp only [thenA, blockA, ↓reduceIte, Nat.reduceEqDiff, reduceCtorEq]) | refine awp_yes' (by simp only [go_sem, AG, dueC, keyC, encM, keyD, e0, e1, e2, g1, g2, g3, g4, g5, hcut, hclen, h0, hm1, herase, p4, hm2, q2, hu]; exact Is.rfl') ?_ | refine awp_no' (by simp only [go_sem, AG, dueC, keyC, encM, keyD, e0, e1, e2, g1, g2, g3, g4, g5, hcut, hclen, h0, hm1, herase, p4, hm2, q2, hu]; exact Is.rfl') ?_)
    (refine awp_ret ?_; (try simp only [thenA, blockA, ↓reduceIte, Nat.reduceEqDiff, reduceCtorEq]); refine retI_of ?_ ?_ <;> simp only [go_sem, AG, dueC, keyC, encM, keyD, e0, e1, e2, g1, g2, g3, g4, g5, hcut, hclen, h0, hm1, herase, p4, hm2, q2, hu, implies_true, and_self, imp_self, false_implies, AV.tuple.injEq, exists_eq_left', ne_eq])
  · have hp : pullR l M i = (cutL l i d y, cutM l M i d y) := by
      unfold pullR
      rw [h0, h1]
      simp only [if_neg hlt]
    rw [hp]
    have g5 : ¬ ((i : Nat) : Int) < ((l.length - 1 : Nat) : Int) := by omega
    refine ⟨Tryd.call40, _, _, Tryd.func40, rfl, (by intro _; rw [Tryd.ntmps40]; simp), ?_⟩
    intro vs esc hesc
    rw [Tryd.ntmps40, Tryd.results40]
    have e0 := hesc 1000 (by simp)
    have e1 := hesc 1001 (by simp)
    have e2 := hesc 1002 (by simp)
    repeat (first | refine aops_op' rfl (by simp only [go_sem, AG, dueC, keyC, encM, keyD, e0, e1, e2, g1, g2, g3, g4, g5, hcut, hclen, h0, hm1, herase]; exact ⟨rfl, rfl⟩) ?_ | refine g_run ?_ | refine g_off ?_ | refine aops_call' rfl (f0) (by simp only [go_sem, AG, dueC, keyC, encM, keyD, e0, e1, e2, g1, g2, g3, g4, g5, hcut, hclen, h0, hm1, herase]; exact Is.rfl') (by simp only [go_sem, AG, dueC, keyC, encM, keyD, e0, e1, e2, g1, g2, g3, g4, g5, hcut, hclen, h0, hm1, herase]; exact ⟨rfl, rfl⟩) ?_ | refine aops_nil (d_end ?_) | refine aops_nil ?_ | refine awp_seq ?_ | refine g_text ?_ | refine g_draw Tryd.mixed ?_ | refine awp_block ?_ | refine awp_skip ?_ | (refine awp_exit ?_; simp only [thenA, blockA, ↓reduceIte, Nat.reduceEqDiff, reduceCtorEq]) | refine awp_yes' (by simp only [go_sem, AG, dueC, keyC, encM, keyD, e0, e1, e2, g1, g2, g3, g4, g5, hcut, hclen, h0, hm1, herase]; exact Is.rfl') ?_ | refine awp_no' (by simp only [go_sem, AG, dueC, keyC, encM, keyD, e0, e1, e2, g1, g2, g3, g4, g5, hcut, hclen, h0, hm1, herase]; exact Is.rfl') ?_)
    refine aops_inl [(1000, 1000), (1001, 1001), (1002, 1002)] rfl (f1) (by decide) (by decide) (by simp only [go_sem, AG, dueC, keyC, encM, keyD, e0, e1, e2, g1, g2, g3, g4, g5, hcut, hclen, h0, hm1, herase] <;> rfl) (by simp only [go_sem, AG, dueC, keyC, encM, keyD, e0, e1, e2, g1, g2, g3, g4, g5, hcut, hclen, h0, hm1, herase, and_self] <;> trivial) (by simp only [go_sem, AG, dueC, keyC, encM, keyD, e0, e1, e2, g1, g2, g3, g4, g5, hcut, hclen, h0, hm1, herase, and_self] <;> trivial) (by intro o; simp only [go_sem, AG, dueC, keyC, encM, keyD, e0, e1, e2, g1, g2, g3, g4, g5, hcut, hclen, h0, hm1, herase, behind, and_self] <;> trivial) (by intro o; simp only [go_sem, AG, dueC, keyC, encM, keyD, e0, e1, e2, g1, g2, g3, g4, g5, hcut, hclen, h0, hm1, herase] <;> rfl) (by simp only [go_sem, AG, dueC, keyC, encM, keyD, e0, e1, e2, g1, g2, g3, g4, g5, hcut, hclen, h0, hm1, herase, behind]; exact Is.rfl') (by simp only [go_sem, AG, dueC, keyC, encM, keyD, e0, e1, e2, g1, g2, g3, g4, g5, hcut, hclen, h0, hm1, herase, behind]; exact Is.rfl') ?_
    repeat (first | refine aops_op' rfl (by simp only [go_sem, AG, dueC, keyC, encM, keyD, e0, e1, e2, g1, g2, g3, g4, g5, hcut, hclen, h0, hm1, herase]; exact ⟨rfl, rfl⟩) ?_ | refine g_run ?_ | refine g_off ?_ | refine aops_call' rfl (f0) (by simp only [go_sem, AG, dueC, keyC, encM, keyD, e0, e1, e2, g1, g2, g3, g4, g5, hcut, hclen, h0, hm1, herase]; exact Is.rfl') (by simp only [go_sem, AG, dueC, keyC, encM, keyD, e0, e1, e2, g1, g2, g3, g4, g5, hcut, hclen, h0, hm1, herase]; exact ⟨rfl, rfl⟩) ?_ | refine aops_nil (d_end ?_) | refine aops_nil ?_ | refine awp_seq ?_ | refine g_text ?_ | refine g_draw Tryd.mixed ?_ | refine awp_block ?_ | refine awp_skip ?_ | (refine awp_exit ?_; simp only [thenA, blockA, ↓reduceIte, Nat.reduceEqDiff, reduceCtorEq]) | refine awp_yes' (by simp only [go_sem, AG, dueC, keyC, encM, keyD, e0, e1, e2, g1, g2, g3, g4, g5, hcut, hclen, h0, hm1, herase]; exact Is.rfl') ?_ | refine awp_no' (by simp only [go_sem, AG, dueC, keyC, encM, keyD, e0, e1, e2, g1, g2, g3, g4, g5, hcut, hclen, h0, hm1, herase]; exact Is.rfl') ?_)
    (refine awp_ret ?_; (try simp only [thenA, blockA, ↓reduceIte, Nat.reduceEqDiff, reduceCtorEq]); refine retI_of ?_ ?_ <;> simp only [go_sem, AG, dueC, keyC, encM, keyD, e0, e1, e2, g1, g2, g3, g4, g5, hcut, hclen, h0, hm1, herase, implies_true, and_self, imp_self, false_implies, AV.tuple.injEq, exists_eq_left', ne_eq])

/-! Put, Drop, Take -/
theorem twrap_con (env : Env) (s : List UInt8) (p : Int) (e : AV) : Con Tryd.prog env 28 [Sg s, errV p e] (errV (-1) (errV p e)) := by
  refine con_of_body_w Tryd.func28 rfl Tryd.call28 (by rw [Tryd.ntmps28]; simp) ?_
  rw [Tryd.ntmps28, Tryd.results28]
  repeat (first | refine aops_op' rfl (by simp only [go_sem]; exact ⟨rfl, rfl⟩) ?_ | refine g_run ?_ | refine g_off ?_ | refine aops_nil (d_end ?_) | refine aops_nil ?_ | refine awp_seq ?_ | refine g_text ?_ | refine g_draw Tryd.mixed ?_ | refine awp_block ?_ | refine awp_skip ?_ | (refine awp_exit ?_; simp only [thenA, blockA, ↓reduceIte, Nat.reduceEqDiff, reduceCtorEq]) | refine awp_yes' (by simp only [go_sem]; exact Is.rfl') ?_ | refine awp_no' (by simp only [go_sem]; exact Is.rfl') ?_)
  (refine awp_ret ?_; refine ⟨_, (by show (resRd _ _ _).run _ = some _; simp only [go_sem]; rfl), ?_⟩)
  exact errV_str _ _ _ rfl _
/-- Put: the heap and the map behind it, and what it tells. -/
def putA (ad : Nat → Addr) (l : List Due) (M : Mp) (d : Due) : (List Due × Mp) × AV := if rightD d = true then (match lookM (keyD d) M with
    | some i => (setR l M d i.toNat, .tuple [B false, nilE])
    | none => if l.length < 1024 then (addR l M d, .tuple [B true, nilE]) else ((l, M), .tuple [B false, errV (-1) (sentV (ad 8))]))
  else ((l, M), .tuple [B false, errV (-1) (errV (-1) (sentV (ad 1)))])
theorem tput_con (ad : Nat → Addr) (mo : More) (d : Due) (l : List Due) (M : Mp) (h : AgOk l M) (hn : d.name.length ≤ 9223372036854775807) (hl : l.length ≤ 4096) :
    ConI Tryd.prog (errEnv ad mo) 10 [1000, 1001, 1002] (fun k => k == 1001) (fun g => [.loc 1000 (g 1000) 0 0, .agg (dueC d)]) (fun g => AG g l M) (fun g => AG g (putA ad l M d).1.1 (putA ad l M d).1.2) (fun _ => (putA ad l M d).2) := by
  have f1 := tcheck_con ad mo d hn
  have f2 := tkey_con (errEnv ad mo) d
  unfold putA
  cases hd : rightD d with
  | false =>
    rw [hd] at f1
    simp only [Bool.false_eq_true, if_false] at f1 ⊢
    have f3 := twrap_con (errEnv ad mo) [116, 105, 109, 101, 114, 46, 80, 117, 116] (-1) (sentV (ad 1))
    refine ⟨Tryd.call10, _, _, Tryd.func10, rfl, (by intro _; rw [Tryd.ntmps10]; simp), ?_⟩
    intro vs esc hesc
    rw [Tryd.ntmps10, Tryd.results10]
    have e0 := hesc 1000 (by simp)
    have e1 := hesc 1001 (by simp)
    have e2 := hesc 1002 (by simp)
    repeat (first | refine aops_op' rfl (by simp only [go_sem, AG, e0, e1, e2]; exact ⟨rfl, rfl⟩) ?_ | refine g_run ?_ | refine g_off ?_ | refine aops_call' rfl (f1) (by simp only [go_sem, AG, e0, e1, e2]; exact Is.rfl') (by simp only [go_sem, AG, e0, e1, e2]; exact ⟨rfl, rfl⟩) ?_ | refine aops_call' rfl (f3) (by simp only [go_sem, AG, e0, e1, e2]; exact Is.rfl') (by simp only [go_sem, AG, e0, e1, e2]; exact ⟨rfl, rfl⟩) ?_ | refine aops_nil (d_end ?_) | refine aops_nil ?_ | refine awp_seq ?_ | refine g_text ?_ | refine g_draw Tryd.mixed ?_ | refine awp_block ?_ | refine awp_skip ?_ | (refine awp_exit ?_; simp only [thenA, blockA, ↓reduceIte, Nat.reduceEqDiff, reduceCtorEq]) | refine awp_yes' (by simp only [go_sem, AG, e0, e1, e2]; exact Is.rfl') ?_ | refine awp_no' (by simp only [go_sem, AG, e0, e1, e2]; exact Is.rfl') ?_)
    (refine awp_ret ?_; (try simp only [thenA, blockA, ↓reduceIte, Nat.reduceEqDiff, reduceCtorEq]); refine retI_of ?_ ?_ <;> simp only [go_sem, AG, e0, e1, e2, implies_true, and_self, imp_self, false_implies, AV.tuple.injEq, exists_eq_left', ne_eq])
  | true =>
    rw [hd] at f1
    simp only [if_true] at f1 ⊢
    have h1 := mfind_M (d.inst, d.name) M 0
    cases hk : lookM (keyD d) M with
    | some v =>
      obtain ⟨d0, i, h0, hkd, rfl⟩ := (h.c.at_ _ _).1 hk
      have hi := (List.getElem?_eq_some_iff.1 h0).1
      obtain ⟨q, q1, q2⟩ := look_some hk
      rw [show idxM (d.inst, d.name) M 0 = some q from q1] at h1
      simp only at h1
      obtain ⟨p, p1, p2, p3⟩ := set_mid h h0 hkd
      have hp : setR l M d i = downS (upS (l.set i d) (putM M (keyD d) i) i).1 (upS (l.set i d) (putM M (keyD d) i) i).2 p := by
        unfold setR
        simp only [p1, Option.getD_some, Int.toNat_natCast]
      simp only [Int.toNat_natCast]
      rw [hp]
      obtain ⟨q', q3, q4⟩ := look_some p1
      have h2 := mfind_M (d.inst, d.name) (upS (l.set i d) (putM M (keyD d) i) i).2 0
      rw [show idxM (d.inst, d.name) (upS (l.set i d) (putM M (keyD d) i) i).2 0 = some q' from q3] at h2
      simp only at h2
      have f3 := set_con (errEnv ad mo) d i l M hi
      have f4 := up_con (errEnv ad mo) i (l.set i d) (putM M (keyD d) i) (by simpa using hi) (by simpa using hl)
      have f5 := down_con (errEnv ad mo) p (upS (l.set i d) (putM M (keyD d) i) i).1 (upS (l.set i d) (putM M (keyD d) i) i).2 p2 (by rw [p3]; exact hl)
      simp only [keyD] at q2 q4 h1 h2 f3 f4 f5 ⊢
      generalize hu : upS (l.set i d) (putM M (d.inst, d.name) i) i = u at *
      refine ⟨Tryd.call10, _, _, Tryd.func10, rfl, (by intro _; rw [Tryd.ntmps10]; simp), ?_⟩
      intro vs esc hesc
      rw [Tryd.ntmps10, Tryd.results10]
      have e0 := hesc 1000 (by simp)
      have e1 := hesc 1001 (by simp)
      have e2 := hesc 1002 (by simp)
      repeat (first | refine aops_op' rfl (by simp only [go_sem, AG, dueC, keyC, encM, e0, e1, e2, h1, q2, h2, q4, hu]; exact ⟨rfl, rfl⟩) ?_ | refine g_run ?_ | refine g_off ?_ | refine aops_call' rfl (f1) (by simp only [go_sem, AG, dueC, keyC, encM, e0, e1, e2, h1, q2, h2, q4, hu]; exact Is.rfl') (by simp only [go_sem, AG, dueC, keyC, encM, e0, e1, e2, h1, q2, h2, q4, hu]; exact ⟨rfl, rfl⟩) ?_ | refine aops_call' rfl (f2) (by simp only [go_sem, AG, dueC, keyC, encM, e0, e1, e2, h1, q2, h2, q4, hu]; exact Is.rfl') (by simp only [go_sem, AG, dueC, keyC, encM, e0, e1, e2, h1, q2, h2, q4, hu]; exact ⟨rfl, rfl⟩) ?_ | refine aops_nil (d_end ?_) | refine aops_nil ?_ | refine awp_seq ?_ | refine g_text ?_ | refine g_draw Tryd.mixed ?_ | refine awp_block ?_ | refine awp_skip ?_ | (refine awp_exit ?_; simp only [thenA, blockA, ↓reduceIte, Nat.reduceEqDiff, reduceCtorEq]) | refine awp_yes' (by simp only [go_sem, AG, dueC, keyC, encM, e0, e1, e2, h1, q2, h2, q4, hu]; exact Is.rfl') ?_ | refine awp_no' (by simp only [go_sem, AG, dueC, keyC, encM, e0, e1, e2, h1, q2, h2, q4, hu]; exact Is.rfl') ?_)
      refine aops_inl [(1000, 1000), (1001, 1001), (1002, 1002)] rfl (f3) (by decide) (by decide) (by simp only [go_sem, AG, dueC, keyC, encM, e0, e1, e2, h1, q2, h2, q4, hu] <;> rfl) (by simp only [go_sem, AG, dueC, keyC, encM, e0, e1, e2, h1, q2, h2, q4, hu, and_self] <;> trivial) (by simp only [go_sem, AG, dueC, keyC, encM, e0, e1, e2, h1, q2, h2, q4, hu, and_self] <;> trivial) (by intro o; simp only [go_sem, AG, dueC, keyC, encM, e0, e1, e2, h1, q2, h2, q4, hu, behind, and_self] <;> trivial) (by intro o; simp only [go_sem, AG, dueC, keyC, encM, e0, e1, e2, h1, q2, h2, q4, hu] <;> rfl) (by simp only [go_sem, AG, dueC, keyC, encM, e0, e1, e2, h1, q2, h2, q4, hu, behind]; exact Is.rfl') (by simp only [go_sem, AG, dueC, keyC, encM, e0, e1, e2, h1, q2, h2, q4, hu, behind]; exact Is.rfl') ?_
      repeat (first | refine aops_op' rfl (by simp only [go_sem, AG, dueC, keyC, encM, e0, e1, e2, h1, q2, h2, q4, hu]; exact ⟨rfl, rfl⟩) ?_ | refine g_run ?_ | refine g_off ?_ | refine aops_call' rfl (f1) (by simp only [go_sem, AG, dueC, keyC, encM, e0, e1, e2, h1, q2, h2, q4, hu]; exact Is.rfl') (by simp only [go_sem, AG, dueC, keyC, encM, e0, e1, e2, h1, q2, h2, q4, hu]; exact ⟨rfl, rfl⟩) ?_ | refine aops_call' rfl (f2) (by simp only [go_sem, AG, dueC, keyC, encM, e0, e1, e2, h1, q2, h2, q4, hu]; exact Is.rfl') (by simp only [go_sem, AG, dueC, keyC, encM, e0, e1, e2, h1, q2, h2, q4, hu]; exact ⟨rfl, rfl⟩) ?_ | refine aops_nil (d_end ?_) | refine aops_nil ?_ | refine awp_seq ?_ | refine g_text ?_ | refine g_draw Tryd.mixed ?_ | refine awp_block ?_ | refine awp_skip ?_ | (refine awp_exit ?_; simp only [thenA, blockA, ↓reduceIte, Nat.reduceEqDiff, reduceCtorEq]) | refine awp_yes' (by simp only [go_sem, AG, dueC, keyC, encM, e0, e1, e2, h1, q2, h2, q4, hu]; exact Is.rfl') ?_ | refine awp_no' (by simp only [go_sem, AG, dueC, keyC, encM, e0, e1, e2, h1, q2, h2, q4, hu]; exact Is.rfl') ?_)
      refine aops_inl [(1000, 1000), (1001, 1001), (1002, 1002)] rfl (f4) (by decide) (by decide) (by simp only [go_sem, AG, dueC, keyC, encM, e0, e1, e2, h1, q2, h2, q4, hu] <;> rfl) (by simp only [go_sem, AG, dueC, keyC, encM, e0, e1, e2, h1, q2, h2, q4, hu, and_self] <;> trivial) (by simp only [go_sem, AG, dueC, keyC, encM, e0, e1, e2, h1, q2, h2, q4, hu, and_self] <;> trivial) (by intro o; simp only [go_sem, AG, dueC, keyC, encM, e0, e1, e2, h1, q2, h2, q4, hu, behind, and_self] <;> trivial) (by intro o; simp only [go_sem, AG, dueC, keyC, encM, e0, e1, e2, h1, q2, h2, q4, hu] <;> rfl) (by simp only [go_sem, AG, dueC, keyC, encM, e0, e1, e2, h1, q2, h2, q4, hu, behind]; exact Is.rfl') (by simp only [go_sem, AG, dueC, keyC, encM, e0, e1, e2, h1, q2, h2, q4, hu, behind]; exact Is.rfl') ?_
      repeat (first | refine aops_op' rfl (by simp only [go_sem, AG, dueC, keyC, encM, e0, e1, e2, h1, q2, h2, q4, hu]; exact ⟨rfl, rfl⟩) ?_ | refine g_run ?_ | refine g_off ?_ | refine aops_call' rfl (f1) (by simp only [go_sem, AG, dueC, keyC, encM, e0, e1, e2, h1, q2, h2, q4, hu]; exact Is.rfl') (by simp only [go_sem, AG, dueC, keyC, encM, e0, e1, e2, h1, q2, h2, q4, hu]; exact ⟨rfl, rfl⟩) ?_ | refine aops_call' rfl (f2) (by simp only [go_sem, AG, dueC, keyC, encM, e0, e1, e2, h1, q2, h2, q4, hu]; exact Is.rfl') (by simp only [go_sem, AG, dueC, keyC, encM, e0, e1, e2, h1, q2, h2, q4, hu]; exact ⟨rfl, rfl⟩) ?_ | refine aops_nil (d_end ?_) | refine aops_nil ?_ | refine awp_seq ?_ | refine g_text ?_ | refine g_draw Tryd.mixed ?_ | refine awp_block ?_ | refine awp_skip ?_ | (refine awp_exit ?_; simp only [thenA, blockA, ↓reduceIte, Nat.reduceEqDiff, reduceCtorEq]) | refine awp_yes' (by simp only [go_sem, AG, dueC, keyC, encM, e0, e1, e2, h1, q2, h2, q4, hu]; exact Is.rfl') ?_ | refine awp_no' (by simp only [go_sem, AG, dueC, keyC, encM, e0, e1, e2, h1, q2, h2, q4, hu]; exact Is.rfl') ?_)
      refine aops_inl [(1000, 1000), (1001, 1001), (1002, 1002)] rfl (f5) (by decide) (by decide) (by simp only [go_sem, AG, dueC, keyC, encM, e0, e1, e2, h1, q2, h2, q4, hu] <;> rfl) (by simp only [go_sem, AG, dueC, keyC, encM, e0, e1, e2, h1, q2, h2, q4, hu, and_self] <;> trivial) (by simp only [go_sem, AG, dueC, keyC, encM, e0, e1, e2, h1, q2, h2, q4, hu, and_self] <;> trivial) (by intro o; simp only [go_sem, AG, dueC, keyC, encM, e0, e1, e2, h1, q2, h2, q4, hu, behind, and_self] <;> trivial) (by intro o; simp only [go_sem, AG, dueC, keyC, encM, e0, e1, e2, h1, q2, h2, q4, hu] <;> rfl) (by simp only [go_sem, AG, dueC, keyC, encM, e0, e1, e2, h1, q2, h2, q4, hu, behind]; exact Is.rfl') (by simp only [go_sem, AG, dueC, keyC, encM, e0, e1, e2, h1, q2, h2, q4, hu, behind]; exact Is.rfl') ?_
      repeat (first | refine aops_op' rfl (by simp only [go_sem, AG, dueC, keyC, encM, e0, e1, e2, h1, q2, h2, q4, hu]; exact ⟨rfl, rfl⟩) ?_ | refine g_run ?_ | refine g_off ?_ | refine aops_call' rfl (f1) (by simp only [go_sem, AG, dueC, keyC, encM, e0, e1, e2, h1, q2, h2, q4, hu]; exact Is.rfl') (by simp only [go_sem, AG, dueC, keyC, encM, e0, e1, e2, h1, q2, h2, q4, hu]; exact ⟨rfl, rfl⟩) ?_ | refine aops_call' rfl (f2) (by simp only [go_sem, AG, dueC, keyC, encM, e0, e1, e2, h1, q2, h2, q4, hu]; exact Is.rfl') (by simp only [go_sem, AG, dueC, keyC, encM, e0, e1, e2, h1, q2, h2, q4, hu]; exact ⟨rfl, rfl⟩) ?_ | refine aops_nil (d_end ?_) | refine aops_nil ?_ | refine awp_seq ?_ | refine g_text ?_ | refine g_draw Tryd.mixed ?_ | refine awp_block ?_ | refine awp_skip ?_ | (refine awp_exit ?_; simp only [thenA, blockA, ↓reduceIte, Nat.reduceEqDiff, reduceCtorEq]) | refine awp_yes' (by simp only [go_sem, AG, dueC, keyC, encM, e0, e1, e2, h1, q2, h2, q4, hu]; exact Is.rfl') ?_ | refine awp_no' (by simp only [go_sem, AG, dueC, keyC, encM, e0, e1, e2, h1, q2, h2, q4, hu]; exact Is.rfl') ?_)
      (refine awp_ret ?_; (try simp only [thenA, blockA, ↓reduceIte, Nat.reduceEqDiff, reduceCtorEq]); refine retI_of ?_ ?_ <;> simp only [go_sem, AG, dueC, keyC, encM, e0, e1, e2, h1, q2, h2, q4, hu, implies_true, and_self, imp_self, false_implies, AV.tuple.injEq, exists_eq_left', ne_eq])
    | none =>
      rw [show idxM (d.inst, d.name) M 0 = none from look_none hk] at h1
      simp only at h1
      by_cases hlt : l.length < 1024
      · simp only [if_pos hlt]
        exact tput_new ad mo d l M hd hn (look_none hk) hlt
      · simp only [if_neg hlt]
        have g1 : (1024 : Int) ≤ (l.length : Int) := by omega
        have f3 := new_con (errEnv ad mo) [116, 105, 109, 101, 114, 46, 80, 117, 116] (ad 8)
        refine ⟨Tryd.call10, _, _, Tryd.func10, rfl, (by intro _; rw [Tryd.ntmps10]; simp), ?_⟩
        intro vs esc hesc
        rw [Tryd.ntmps10, Tryd.results10]
        have e0 := hesc 1000 (by simp)
        have e1 := hesc 1001 (by simp)
        have e2 := hesc 1002 (by simp)
        repeat (first | refine aops_op' rfl (by simp only [go_sem, AG, dueC, keyC, e0, e1, e2, h1, g1, gt_e8]; exact ⟨rfl, rfl⟩) ?_ | refine g_run ?_ | refine g_off ?_ | refine aops_call' rfl (f1) (by simp only [go_sem, AG, dueC, keyC, e0, e1, e2, h1, g1, gt_e8]; exact Is.rfl') (by simp only [go_sem, AG, dueC, keyC, e0, e1, e2, h1, g1, gt_e8]; exact ⟨rfl, rfl⟩) ?_ | refine aops_call' rfl (f2) (by simp only [go_sem, AG, dueC, keyC, e0, e1, e2, h1, g1, gt_e8]; exact Is.rfl') (by simp only [go_sem, AG, dueC, keyC, e0, e1, e2, h1, g1, gt_e8]; exact ⟨rfl, rfl⟩) ?_ | refine aops_call' rfl (f3) (by simp only [go_sem, AG, dueC, keyC, e0, e1, e2, h1, g1, gt_e8]; exact Is.rfl') (by simp only [go_sem, AG, dueC, keyC, e0, e1, e2, h1, g1, gt_e8]; exact ⟨rfl, rfl⟩) ?_ | refine aops_nil (d_end ?_) | refine aops_nil ?_ | refine awp_seq ?_ | refine g_text ?_ | refine g_draw Tryd.mixed ?_ | refine awp_block ?_ | refine awp_skip ?_ | (refine awp_exit ?_; simp only [thenA, blockA, ↓reduceIte, Nat.reduceEqDiff, reduceCtorEq]) | refine awp_yes' (by simp only [go_sem, AG, dueC, keyC, e0, e1, e2, h1, g1, gt_e8]; exact Is.rfl') ?_ | refine awp_no' (by simp only [go_sem, AG, dueC, keyC, e0, e1, e2, h1, g1, gt_e8]; exact Is.rfl') ?_)
        (refine awp_ret ?_; (try simp only [thenA, blockA, ↓reduceIte, Nat.reduceEqDiff, reduceCtorEq]); refine retI_of ?_ ?_ <;> simp only [go_sem, AG, dueC, keyC, e0, e1, e2, h1, g1, gt_e8, implies_true, and_self, imp_self, false_implies, AV.tuple.injEq, exists_eq_left', ne_eq])
end Go.Proofs.YthepkabfiooabaaDoor
