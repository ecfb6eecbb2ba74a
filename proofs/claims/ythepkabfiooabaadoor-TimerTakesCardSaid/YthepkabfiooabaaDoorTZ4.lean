/- The law TimerTakes, walked. -/
import Derived.Test.YthepkabfiooabaaDoorTZ2
set_option linter.unusedSimpArgs false
namespace Go.Proofs.YthepkabfiooabaaDoor
open Go.RowKit
set_option maxRecDepth 100000
set_option maxHeartbeats 4000000
attribute [local go_sem_proc ↓] reduceIte
attribute [local go_sem_proc] reduceCtorEq Nat.reduceBEq Nat.reduceAdd Nat.reduceSub Nat.reduceEqDiff Nat.reduceLT Nat.reduceLeDiff Nat.reduceMul Int.reduceToNat Int.reduceBEq Int.reduceBNe Int.reduceEq Int.reduceLT Int.reduceLE
attribute [local go_sem] ev_clear ev_makeFunc funcRd evClear List.isEmpty_cons Array.isEmpty_iff ev_makeMap ev_lookup ev_mapUpdate ev_delete evMakeMap evLookup evMapUpdate evDelete pureOf keyCmp mfind oneCells Rd.map AV.bare AV.bare.bareL AV.ofVal resRd resOne resAll HoldF HoldR Takes thenA blockA ev_move ev_assign ev_pick ev_alloc ev_box ev_build ev_buildSlice ev_load ev_store ev_binOp ev_unOp ev_convert ev_iface ev_make ev_slice ev_fieldAddr ev_field ev_indexAddr ev_index ev_extract ev_len ev_append ev_min ev_max evMin evMax gt_tmp gt_int gt_bool gt_str gt_nilS gt_nilP gt_nilI pickRd allocRd buildRd sliceRd loadRd unRd ifaceRd exRd val optRd callRd seen AV.plain adopt fzArgs Rd.run AV.asCells newBox runL Comes' Rd.row Rd.bind Out.app apps Eff.app St.renew St.setRow St.show St.put St.init upd evStore evBinR evBin eqFs eqCell evConv evSeq evLen evIndexAddr evFieldAddr evField evIndex bound evSlice evSliceF evAppend evMake loadOf fillAV fillEs fzParts fz fzCell fzCells shows isConstOp splice wrs wes Value.oneCell' List.getD_cons_zero List.getD_cons_succ List.getD_nil List.length_cons List.length_nil List.map_cons List.map_nil List.nil_append List.cons_append List.all_cons List.all_nil List.getElem?_cons_zero List.getElem?_cons_succ List.set_cons_zero List.set_cons_succ List.take_succ_cons List.take_zero List.drop_succ_cons List.drop_zero List.take_nil List.drop_nil List.replicate_succ List.replicate_zero Bool.and_true Bool.true_and Bool.and_self and_self true_and and_true Nat.zero_add Nat.add_zero Option.some.injEq Nat.zero_lt_succ Bool.not_true Bool.not_false ne_eq not_true_eq_false not_false_eq_true Option.map_some Option.map_none List.toList_toArray head headF headR List.length_map Int.toNat_natCast Int.natCast_nonneg List.getElem?_map decide_true decide_false Bool.false_eq_true if_true if_false Bool.or_self Bool.or_true Bool.true_or Bool.false_or Bool.or_false Bool.and_false Bool.false_and List.flatten_cons List.flatten_nil List.append_nil nat0 or_self or_false false_or or_true true_or and_false false_and List.length_append List.isEmpty_nil bne_self_eq_false beq_self_eq_true fits_small strL_l bytesOf_map wants Int.cast_ofNat_Int gt_iff_lt ge_iff_le
attribute [local go_sem ←] List.map_drop List.map_take
attribute [local go_sem] nilRd ev_nilCheck tmpsAre resI resIs cellRd HoldI toRL toKL gin gout nout vin grownR lay AV.ren AV.ren.renL Row.ren headR Option.bind_some Option.bind_none Option.isSome_some Option.isSome_none Option.getD_some Bool.true_eq_false PreOk PostOk EscOk wrs wes List.cons.injEq Prod.mk.injEq forall_const

theorem less_at {x y : Due} (h : dueLess x y = true) : x.at_ ≤ y.at_ := by
  unfold dueLess at h
  split at h
  · omega
  · have := of_decide_eq_true h; omega
/-- What is due till a time is the head of the sorted list. -/
theorem until_take {w : List Due} (h : Sorted w) (now : Int) : untilW w now = w.take (untilW w now).length ∧ ∀ d, w[(untilW w now).length]? = some d → now < d.at_ := by
  induction w with
  | nil => exact ⟨rfl, fun d hd => by simp at hd⟩
  | cons x w ih =>
    obtain ⟨h1, h2⟩ := List.pairwise_cons.1 h
    obtain ⟨i1, i2⟩ := ih h2
    unfold untilW at *
    by_cases hx : x.at_ ≤ now
    · simp only [List.filter_cons, decide_eq_true hx, if_true, List.length_cons, List.take_succ_cons, List.getElem?_cons_succ]
      exact ⟨by rw [← i1], i2⟩
    · have hn : w.filter (fun d => decide (d.at_ ≤ now)) = [] := by
        rw [List.filter_eq_nil_iff]
        intro y hy
        have := less_at (h1 y hy)
        simp
        omega
      simp only [List.filter_cons, decide_eq_false hx, Bool.false_eq_true, if_false, hn, List.length_nil, List.take_zero, List.getElem?_cons_zero, Option.some.injEq, true_and]
      rintro d rfl
      omega
theorem until_le {w : List Due} {now : Int} {i : Nat} {d : Due} (h : (untilW w now)[i]? = some d) : d.at_ ≤ now := by
  have := (List.mem_filter.1 (List.mem_of_getElem? h)).2
  exact of_decide_eq_true this
theorem clock_in {now : Int} (h1 : ¬ now < 0) (h2 : ¬ (1099511627776 : Int) < now) : clockB now = true := by
  unfold clockB
  rw [Bool.and_eq_true, decide_eq_true_eq, decide_eq_true_eq]
  omega
theorem clock_out {now : Int} (h : now < 0 ∨ (1099511627776 : Int) < now) : clockB now = false := by
  unfold clockB
  rw [Bool.and_eq_false_iff, decide_eq_false_iff_not, decide_eq_false_iff_not]
  omega
theorem ttakes_con (ad : Nat → Addr) (mo : More) (l : List Due) (now : Int) (hn : ∀ d ∈ l, d.name.length ≤ 9223372036854775807) : Con Tryd.prog (errEnv ad mo) 5 [dues l, I now] (B true) := by
  have f0 := filled_con ad mo l hn
  have fW := awake33_con ad mo
  obtain ⟨hR, hlen, hmem⟩ := fill_rel ad l (min l.length 100)
  have hw : (fillA ad l).2.length ≤ 100 := by show (fillN ad l (min l.length 100)).2.length ≤ 100; omega
  have hR : Rl (fillA ad l).1.1 (fillA ad l).1.2 (fillA ad l).2 := hR
  clear hlen hmem
  generalize fillA ad l = p at *
  obtain ⟨⟨la, M⟩, w⟩ := p
  simp only at f0 hw hR
  have fU := tuntil_con (errEnv ad mo) now la M (by rw [hR.len]; omega)
  rw [hR.sort] at fU
  obtain ⟨hu, hend⟩ := until_take hR.so now
  have hul : (untilW w now).length ≤ w.length := List.length_filter_le _ _
  by_cases hcl : now < 0 ∨ (1099511627776 : Int) < now
  · have fT := ttake_con ad mo now la M hR.ok (by rw [hR.len]; omega)
    unfold takeA at fT
    rw [clock_out hcl] at fT
    simp only [Bool.false_eq_true, if_false] at fT
    have fE := tells33_one ad mo 1 (by decide) (-1)
    generalize untilW w now = u at *
    by_cases g1 : now < 0
    · refine con_of_body Tryd.func5 rfl Tryd.call5 (by rw [Tryd.ntmps5]; simp) ?_
      rw [Tryd.ntmps5, Tryd.results5]
      repeat (first | refine aops_op' rfl (by simp only [go_sem, AG, dueC, zeroD, g1]; exact ⟨rfl, rfl⟩) ?_ | refine g_run ?_ | refine g_off ?_ | refine aops_nil (d_end ?_) | refine aops_nil ?_ | refine awp_seq ?_ | refine g_text ?_ | refine g_draw Tryd.mixed ?_ | refine awp_block ?_ | refine awp_skip ?_ | (refine awp_exit ?_; simp only [thenA, blockA, ↓reduceIte, Nat.reduceEqDiff, reduceCtorEq]) | refine awp_yes' (by simp only [go_sem, AG, dueC, zeroD, g1]; exact Is.rfl') ?_ | refine awp_no' (by simp only [go_sem, AG, dueC, zeroD, g1]; exact Is.rfl') ?_)
      refine aops_inl [(1000, 1000), (1001, 1001), (1002, 1002)] rfl (f0) (by decide) (by decide) (by simp only [go_sem, AG, dueC, zeroD, g1] <;> rfl) (by simp only [go_sem, AG, dueC, zeroD, g1, and_self] <;> trivial) (by simp only [go_sem, AG, dueC, zeroD, g1, and_self] <;> trivial) (by intro o; simp only [go_sem, AG, dueC, zeroD, g1, behind, and_self] <;> trivial) (by intro o; simp only [go_sem, AG, dueC, zeroD, g1] <;> rfl) (by simp only [go_sem, AG, dueC, zeroD, g1, behind]; exact Is.rfl') (by simp only [go_sem, AG, dueC, zeroD, g1, behind]; exact Is.rfl') ?_
      repeat (first | refine aops_op' rfl (by simp only [go_sem, AG, dueC, zeroD, g1]; exact ⟨rfl, rfl⟩) ?_ | refine g_run ?_ | refine g_off ?_ | refine aops_nil (d_end ?_) | refine aops_nil ?_ | refine awp_seq ?_ | refine g_text ?_ | refine g_draw Tryd.mixed ?_ | refine awp_block ?_ | refine awp_skip ?_ | (refine awp_exit ?_; simp only [thenA, blockA, ↓reduceIte, Nat.reduceEqDiff, reduceCtorEq]) | refine awp_yes' (by simp only [go_sem, AG, dueC, zeroD, g1]; exact Is.rfl') ?_ | refine awp_no' (by simp only [go_sem, AG, dueC, zeroD, g1]; exact Is.rfl') ?_)
      refine aops_inl [(1000, 1000), (1001, 1001), (1002, 1002), (6, 25)] rfl (fU) (by decide) (by decide) (by simp only [go_sem, AG, dueC, zeroD, g1] <;> rfl) (by simp only [go_sem, AG, dueC, zeroD, g1, and_self] <;> trivial) (by simp only [go_sem, AG, dueC, zeroD, g1, and_self] <;> trivial) (by intro o; simp only [go_sem, AG, dueC, zeroD, g1, behind, and_self] <;> trivial) (by intro o; simp only [go_sem, AG, dueC, zeroD, g1] <;> rfl) (by simp only [go_sem, AG, dueC, zeroD, g1, behind]; exact Is.rfl') (by simp only [go_sem, AG, dueC, zeroD, g1, behind]; exact Is.rfl') ?_
      repeat (first | refine aops_op' rfl (by simp only [go_sem, AG, dueC, zeroD, g1]; exact ⟨rfl, rfl⟩) ?_ | refine g_run ?_ | refine g_off ?_ | refine aops_nil (d_end ?_) | refine aops_nil ?_ | refine awp_seq ?_ | refine g_text ?_ | refine g_draw Tryd.mixed ?_ | refine awp_block ?_ | refine awp_skip ?_ | (refine awp_exit ?_; simp only [thenA, blockA, ↓reduceIte, Nat.reduceEqDiff, reduceCtorEq]) | refine awp_yes' (by simp only [go_sem, AG, dueC, zeroD, g1]; exact Is.rfl') ?_ | refine awp_no' (by simp only [go_sem, AG, dueC, zeroD, g1]; exact Is.rfl') ?_)
      refine aops_inl [(1000, 1000), (1001, 1001), (1002, 1002)] rfl (fT) (by decide) (by decide) (by simp only [go_sem, AG, dueC, zeroD, g1] <;> rfl) (by simp only [go_sem, AG, dueC, zeroD, g1, and_self] <;> trivial) (by simp only [go_sem, AG, dueC, zeroD, g1, and_self] <;> trivial) (by intro o; simp only [go_sem, AG, dueC, zeroD, g1, behind, and_self] <;> trivial) (by intro o; simp only [go_sem, AG, dueC, zeroD, g1] <;> rfl) (by simp only [go_sem, AG, dueC, zeroD, g1, behind]; exact Is.rfl') (by simp only [go_sem, AG, dueC, zeroD, g1, behind]; exact Is.rfl') ?_
      repeat (first | refine aops_op' rfl (by simp only [go_sem, AG, dueC, zeroD, g1]; exact ⟨rfl, rfl⟩) ?_ | refine g_run ?_ | refine g_off ?_ | refine aops_call' rfl (fE) (by simp only [go_sem, AG, dueC, zeroD, g1]; exact Is.rfl') (by simp only [go_sem, AG, dueC, zeroD, g1]; exact ⟨rfl, rfl⟩) ?_ | refine aops_call' rfl (fW) (by simp only [go_sem, AG, dueC, zeroD, g1]; exact Is.rfl') (by simp only [go_sem, AG, dueC, zeroD, g1]; exact ⟨rfl, rfl⟩) ?_ | refine aops_nil (d_end ?_) | refine aops_nil ?_ | refine awp_seq ?_ | refine g_text ?_ | refine g_draw Tryd.mixed ?_ | refine awp_block ?_ | refine awp_skip ?_ | (refine awp_exit ?_; simp only [thenA, blockA, ↓reduceIte, Nat.reduceEqDiff, reduceCtorEq]) | refine awp_yes' (by simp only [go_sem, AG, dueC, zeroD, g1]; exact Is.rfl') ?_ | refine awp_no' (by simp only [go_sem, AG, dueC, zeroD, g1]; exact Is.rfl') ?_)
      (refine awp_ret ?_; show (resRd _ _ _).run _ = some _; simp only [go_sem, AG, dueC, zeroD, g1])
    · have g2 : (1099511627776 : Int) < now := hcl.resolve_left g1
      refine con_of_body Tryd.func5 rfl Tryd.call5 (by rw [Tryd.ntmps5]; simp) ?_
      rw [Tryd.ntmps5, Tryd.results5]
      repeat (first | refine aops_op' rfl (by simp only [go_sem, AG, dueC, zeroD, g1, g2]; exact ⟨rfl, rfl⟩) ?_ | refine g_run ?_ | refine g_off ?_ | refine aops_nil (d_end ?_) | refine aops_nil ?_ | refine awp_seq ?_ | refine g_text ?_ | refine g_draw Tryd.mixed ?_ | refine awp_block ?_ | refine awp_skip ?_ | (refine awp_exit ?_; simp only [thenA, blockA, ↓reduceIte, Nat.reduceEqDiff, reduceCtorEq]) | refine awp_yes' (by simp only [go_sem, AG, dueC, zeroD, g1, g2]; exact Is.rfl') ?_ | refine awp_no' (by simp only [go_sem, AG, dueC, zeroD, g1, g2]; exact Is.rfl') ?_)
      refine aops_inl [(1000, 1000), (1001, 1001), (1002, 1002)] rfl (f0) (by decide) (by decide) (by simp only [go_sem, AG, dueC, zeroD, g1, g2] <;> rfl) (by simp only [go_sem, AG, dueC, zeroD, g1, g2, and_self] <;> trivial) (by simp only [go_sem, AG, dueC, zeroD, g1, g2, and_self] <;> trivial) (by intro o; simp only [go_sem, AG, dueC, zeroD, g1, g2, behind, and_self] <;> trivial) (by intro o; simp only [go_sem, AG, dueC, zeroD, g1, g2] <;> rfl) (by simp only [go_sem, AG, dueC, zeroD, g1, g2, behind]; exact Is.rfl') (by simp only [go_sem, AG, dueC, zeroD, g1, g2, behind]; exact Is.rfl') ?_
      repeat (first | refine aops_op' rfl (by simp only [go_sem, AG, dueC, zeroD, g1, g2]; exact ⟨rfl, rfl⟩) ?_ | refine g_run ?_ | refine g_off ?_ | refine aops_nil (d_end ?_) | refine aops_nil ?_ | refine awp_seq ?_ | refine g_text ?_ | refine g_draw Tryd.mixed ?_ | refine awp_block ?_ | refine awp_skip ?_ | (refine awp_exit ?_; simp only [thenA, blockA, ↓reduceIte, Nat.reduceEqDiff, reduceCtorEq]) | refine awp_yes' (by simp only [go_sem, AG, dueC, zeroD, g1, g2]; exact Is.rfl') ?_ | refine awp_no' (by simp only [go_sem, AG, dueC, zeroD, g1, g2]; exact Is.rfl') ?_)
      refine aops_inl [(1000, 1000), (1001, 1001), (1002, 1002), (6, 25)] rfl (fU) (by decide) (by decide) (by simp only [go_sem, AG, dueC, zeroD, g1, g2] <;> rfl) (by simp only [go_sem, AG, dueC, zeroD, g1, g2, and_self] <;> trivial) (by simp only [go_sem, AG, dueC, zeroD, g1, g2, and_self] <;> trivial) (by intro o; simp only [go_sem, AG, dueC, zeroD, g1, g2, behind, and_self] <;> trivial) (by intro o; simp only [go_sem, AG, dueC, zeroD, g1, g2] <;> rfl) (by simp only [go_sem, AG, dueC, zeroD, g1, g2, behind]; exact Is.rfl') (by simp only [go_sem, AG, dueC, zeroD, g1, g2, behind]; exact Is.rfl') ?_
      repeat (first | refine aops_op' rfl (by simp only [go_sem, AG, dueC, zeroD, g1, g2]; exact ⟨rfl, rfl⟩) ?_ | refine g_run ?_ | refine g_off ?_ | refine aops_nil (d_end ?_) | refine aops_nil ?_ | refine awp_seq ?_ | refine g_text ?_ | refine g_draw Tryd.mixed ?_ | refine awp_block ?_ | refine awp_skip ?_ | (refine awp_exit ?_; simp only [thenA, blockA, ↓reduceIte, Nat.reduceEqDiff, reduceCtorEq]) | refine awp_yes' (by simp only [go_sem, AG, dueC, zeroD, g1, g2]; exact Is.rfl') ?_ | refine awp_no' (by simp only [go_sem, AG, dueC, zeroD, g1, g2]; exact Is.rfl') ?_)
      refine aops_inl [(1000, 1000), (1001, 1001), (1002, 1002)] rfl (fT) (by decide) (by decide) (by simp only [go_sem, AG, dueC, zeroD, g1, g2] <;> rfl) (by simp only [go_sem, AG, dueC, zeroD, g1, g2, and_self] <;> trivial) (by simp only [go_sem, AG, dueC, zeroD, g1, g2, and_self] <;> trivial) (by intro o; simp only [go_sem, AG, dueC, zeroD, g1, g2, behind, and_self] <;> trivial) (by intro o; simp only [go_sem, AG, dueC, zeroD, g1, g2] <;> rfl) (by simp only [go_sem, AG, dueC, zeroD, g1, g2, behind]; exact Is.rfl') (by simp only [go_sem, AG, dueC, zeroD, g1, g2, behind]; exact Is.rfl') ?_
      repeat (first | refine aops_op' rfl (by simp only [go_sem, AG, dueC, zeroD, g1, g2]; exact ⟨rfl, rfl⟩) ?_ | refine g_run ?_ | refine g_off ?_ | refine aops_call' rfl (fE) (by simp only [go_sem, AG, dueC, zeroD, g1, g2]; exact Is.rfl') (by simp only [go_sem, AG, dueC, zeroD, g1, g2]; exact ⟨rfl, rfl⟩) ?_ | refine aops_call' rfl (fW) (by simp only [go_sem, AG, dueC, zeroD, g1, g2]; exact Is.rfl') (by simp only [go_sem, AG, dueC, zeroD, g1, g2]; exact ⟨rfl, rfl⟩) ?_ | refine aops_nil (d_end ?_) | refine aops_nil ?_ | refine awp_seq ?_ | refine g_text ?_ | refine g_draw Tryd.mixed ?_ | refine awp_block ?_ | refine awp_skip ?_ | (refine awp_exit ?_; simp only [thenA, blockA, ↓reduceIte, Nat.reduceEqDiff, reduceCtorEq]) | refine awp_yes' (by simp only [go_sem, AG, dueC, zeroD, g1, g2]; exact Is.rfl') ?_ | refine awp_no' (by simp only [go_sem, AG, dueC, zeroD, g1, g2]; exact Is.rfl') ?_)
      (refine awp_ret ?_; show (resRd _ _ _).run _ = some _; simp only [go_sem, AG, dueC, zeroD, g1, g2])
  obtain ⟨g1, g2⟩ := not_or.1 hcl
  have hck := clock_in g1 g2
  have hle := fun i d => until_le (w := w) (now := now) (i := i) (d := d)
  generalize untilW w now = u at *
  refine con_of_body Tryd.func5 rfl Tryd.call5 (by rw [Tryd.ntmps5]; simp) ?_
  rw [Tryd.ntmps5, Tryd.results5]
  repeat (first | refine aops_op' rfl (by simp only [go_sem, AG, g1, g2]; exact ⟨rfl, rfl⟩) ?_ | refine g_run ?_ | refine g_off ?_ | refine aops_nil (d_end ?_) | refine aops_nil ?_ | refine awp_seq ?_ | refine g_text ?_ | refine g_draw Tryd.mixed ?_ | refine awp_block ?_ | refine awp_skip ?_ | (refine awp_exit ?_; simp only [thenA, blockA, ↓reduceIte, Nat.reduceEqDiff, reduceCtorEq]) | refine awp_yes' (by simp only [go_sem, AG, g1, g2]; exact Is.rfl') ?_ | refine awp_no' (by simp only [go_sem, AG, g1, g2]; exact Is.rfl') ?_)
  refine aops_inl [(1000, 1000), (1001, 1001), (1002, 1002)] rfl (f0) (by decide) (by decide) (by simp only [go_sem, AG, g1, g2] <;> rfl) (by simp only [go_sem, AG, g1, g2, and_self] <;> trivial) (by simp only [go_sem, AG, g1, g2, and_self] <;> trivial) (by intro o; simp only [go_sem, AG, g1, g2, behind, and_self] <;> trivial) (by intro o; simp only [go_sem, AG, g1, g2] <;> rfl) (by simp only [go_sem, AG, g1, g2, behind]; exact Is.rfl') (by simp only [go_sem, AG, g1, g2, behind]; exact Is.rfl') ?_
  repeat (first | refine aops_op' rfl (by simp only [go_sem, AG, g1, g2]; exact ⟨rfl, rfl⟩) ?_ | refine g_run ?_ | refine g_off ?_ | refine aops_nil (d_end ?_) | refine aops_nil ?_ | refine awp_seq ?_ | refine g_text ?_ | refine g_draw Tryd.mixed ?_ | refine awp_block ?_ | refine awp_skip ?_ | (refine awp_exit ?_; simp only [thenA, blockA, ↓reduceIte, Nat.reduceEqDiff, reduceCtorEq]) | refine awp_yes' (by simp only [go_sem, AG, g1, g2]; exact Is.rfl') ?_ | refine awp_no' (by simp only [go_sem, AG, g1, g2]; exact Is.rfl') ?_)
  refine aops_inl [(1000, 1000), (1001, 1001), (1002, 1002), (6, 25)] rfl (fU) (by decide) (by decide) (by simp only [go_sem, AG, g1, g2] <;> rfl) (by simp only [go_sem, AG, g1, g2, and_self] <;> trivial) (by simp only [go_sem, AG, g1, g2, and_self] <;> trivial) (by intro o; simp only [go_sem, AG, g1, g2, behind, and_self] <;> trivial) (by intro o; simp only [go_sem, AG, g1, g2] <;> rfl) (by simp only [go_sem, AG, g1, g2, behind]; exact Is.rfl') (by simp only [go_sem, AG, g1, g2, behind]; exact Is.rfl') ?_
  repeat (first | refine aops_op' rfl (by simp only [go_sem, AG, g1, g2]; exact ⟨rfl, rfl⟩) ?_ | refine g_run ?_ | refine g_off ?_ | refine aops_nil (d_end ?_) | refine aops_nil ?_ | refine awp_seq ?_ | refine g_text ?_ | refine g_draw Tryd.mixed ?_ | refine awp_block ?_ | refine awp_skip ?_ | (refine awp_exit ?_; simp only [thenA, blockA, ↓reduceIte, Nat.reduceEqDiff, reduceCtorEq]) | refine awp_yes' (by simp only [go_sem, AG, g1, g2]; exact Is.rfl') ?_ | refine awp_no' (by simp only [go_sem, AG, g1, g2]; exact Is.rfl') ?_)
  refine awp_loopH (D := Nat × List Due × Mp) (fun x vs' => [(1, I now), (5, .loc 1000 (vs' 1000) 0 0), (6, dues w), (7, .row 25 (vs' 25)), (11, I (x.1 : Int))]) (fun x vs' => AG vs' x.2.1 x.2.2 ++ [(25, ⟨3, u.map dueC, 32, true⟩)]) (fun x vs' esc' => (x.1 ≤ u.length ∧ Rl x.2.1 x.2.2 (w.drop x.1)) ∧ esc' 1000 = false ∧ esc' 1001 = false ∧ esc' 1002 = false) (fun x => u.length - x.1) (0, la, M) ?_ ?_ ?_ ?_
  · exact ⟨⟨Nat.zero_le _, hR⟩, by simp only [go_sem], by simp only [go_sem], by simp only [go_sem]⟩
  · (simp only [go_sem, AG, g1, g2])
  · (simp only [go_sem, AG, g1, g2])
  rintro ⟨n, lb, Mb⟩ ws es ⟨⟨hnu, hRb⟩, e0, e1, e2⟩
  simp only at hnu hRb
  have hlb : lb.length ≤ 4096 := by rw [hRb.len, List.length_drop]; omega
  have fT := ttake_con ad mo now lb Mb hRb.ok hlb
  unfold takeA at fT
  rw [hck] at fT
  simp only [if_true] at fT
  by_cases hlt : n < u.length
  · obtain ⟨d, hd⟩ : ∃ x, u[n]? = some x := ⟨u[n], List.getElem?_eq_getElem hlt⟩
    have hdw : w[n]? = some d := by
      rw [hu, List.getElem?_take, if_pos hlt] at hd
      exact hd
    have hdl := hle n d hd
    rw [drop_cons hdw] at hRb
    cases lb with
    | nil => exact absurd (hRb.nil_iff.1 rfl) (by simp)
    | cons d' lb =>
      have he := hRb.head
      subst he
      have hnl : ¬ now < d'.at_ := by omega
      simp only [if_neg hnl] at fT
      have hR2 := hRb.take
      have c1 := nlt hlt
      have c2 := wrap_succ hlt (by omega)
      have c3 : (n : Int) < (w.length : Int) := by omega
      generalize pullR (d' :: lb) Mb 0 = p at *
      repeat (first | refine aops_op' rfl (by simp only [go_sem, AG, dueC, e0, e1, e2, c1, c2, c3, hd, hdw]; exact ⟨rfl, rfl⟩) ?_ | refine g_run ?_ | refine g_off ?_ | refine aops_nil (d_end ?_) | refine aops_nil ?_ | refine awp_seq ?_ | refine g_text ?_ | refine g_draw Tryd.mixed ?_ | refine awp_block ?_ | refine awp_skip ?_ | (refine awp_exit ?_; simp only [thenA, blockA, ↓reduceIte, Nat.reduceEqDiff, reduceCtorEq]) | refine awp_yes' (by simp only [go_sem, AG, dueC, e0, e1, e2, c1, c2, c3, hd, hdw]; exact Is.rfl') ?_ | refine awp_no' (by simp only [go_sem, AG, dueC, e0, e1, e2, c1, c2, c3, hd, hdw]; exact Is.rfl') ?_)
      refine aops_inl [(1000, 1000), (1001, 1001), (1002, 1002)] rfl (fT) (by decide) (by decide) (by simp only [go_sem, AG, dueC, e0, e1, e2, c1, c2, c3, hd, hdw] <;> rfl) (by simp only [go_sem, AG, dueC, e0, e1, e2, c1, c2, c3, hd, hdw, and_self] <;> trivial) (by simp only [go_sem, AG, dueC, e0, e1, e2, c1, c2, c3, hd, hdw, and_self] <;> trivial) (by intro o; simp only [go_sem, AG, dueC, e0, e1, e2, c1, c2, c3, hd, hdw, behind, and_self] <;> trivial) (by intro o; simp only [go_sem, AG, dueC, e0, e1, e2, c1, c2, c3, hd, hdw] <;> rfl) (by simp only [go_sem, AG, dueC, e0, e1, e2, c1, c2, c3, hd, hdw, behind]; exact Is.rfl') (by simp only [go_sem, AG, dueC, e0, e1, e2, c1, c2, c3, hd, hdw, behind]; exact Is.rfl') ?_
      repeat (first | refine aops_op' rfl (by simp only [go_sem, AG, dueC, e0, e1, e2, c1, c2, c3, hd, hdw]; exact ⟨rfl, rfl⟩) ?_ | refine g_run ?_ | refine g_off ?_ | refine aops_nil (d_end ?_) | refine aops_nil ?_ | refine awp_seq ?_ | refine g_text ?_ | refine g_draw Tryd.mixed ?_ | refine awp_block ?_ | refine awp_skip ?_ | (refine awp_exit ?_; simp only [thenA, blockA, ↓reduceIte, Nat.reduceEqDiff, reduceCtorEq]) | refine awp_yes' (by simp only [go_sem, AG, dueC, e0, e1, e2, c1, c2, c3, hd, hdw]; exact Is.rfl') ?_ | refine awp_no' (by simp only [go_sem, AG, dueC, e0, e1, e2, c1, c2, c3, hd, hdw]; exact Is.rfl') ?_)
      refine ⟨(n + 1, p.1, p.2), ⟨⟨hlt, hR2⟩, ?_, ?_, ?_⟩, ?_, ?_, ?_⟩
      · simp only [go_sem, e0]
      · simp only [go_sem, e1]
      · simp only [go_sem, e2]
      · (simp only [go_sem, AG, dueC, e0, e1, e2, c1, c2, c3, hd, hdw])
      · (simp only [go_sem, AG, dueC, e0, e1, e2, c1, c2, c3, hd, hdw])
      · simp only; omega
  · have c1 : ¬ (n : Int) < (u.length : Int) := by omega
    have hnn : n = u.length := by omega
    subst hnn
    have fL := tlen_con (errEnv ad mo) lb Mb
    have fH := twhole_con (errEnv ad mo) lb Mb hRb.ok hlb
    have hll : (lb.length : Int) = (w.length : Int) - (u.length : Int) := by rw [hRb.len, List.length_drop]; omega
    rw [hll] at fL
    have c2 : IntKind.i64.wrap ((w.length : Int) - (u.length : Int)) = (w.length : Int) - (u.length : Int) := wrap_in (by omega) (by omega)
    cases lb with
    | nil =>
      simp only at fT
      repeat (first | refine aops_op' rfl (by simp only [go_sem, AG, dueC, zeroD, e0, e1, e2, c1, c2]; exact ⟨rfl, rfl⟩) ?_ | refine g_run ?_ | refine g_off ?_ | refine aops_nil (d_end ?_) | refine aops_nil ?_ | refine awp_seq ?_ | refine g_text ?_ | refine g_draw Tryd.mixed ?_ | refine awp_block ?_ | refine awp_skip ?_ | (refine awp_exit ?_; simp only [thenA, blockA, ↓reduceIte, Nat.reduceEqDiff, reduceCtorEq]) | refine awp_yes' (by simp only [go_sem, AG, dueC, zeroD, e0, e1, e2, c1, c2]; exact Is.rfl') ?_ | refine awp_no' (by simp only [go_sem, AG, dueC, zeroD, e0, e1, e2, c1, c2]; exact Is.rfl') ?_)
      refine aops_inl [(1000, 1000), (1001, 1001), (1002, 1002)] rfl (fT) (by decide) (by decide) (by simp only [go_sem, AG, dueC, zeroD, e0, e1, e2, c1, c2] <;> rfl) (by simp only [go_sem, AG, dueC, zeroD, e0, e1, e2, c1, c2, and_self] <;> trivial) (by simp only [go_sem, AG, dueC, zeroD, e0, e1, e2, c1, c2, and_self] <;> trivial) (by intro o; simp only [go_sem, AG, dueC, zeroD, e0, e1, e2, c1, c2, behind, and_self] <;> trivial) (by intro o; simp only [go_sem, AG, dueC, zeroD, e0, e1, e2, c1, c2] <;> rfl) (by simp only [go_sem, AG, dueC, zeroD, e0, e1, e2, c1, c2, behind]; exact Is.rfl') (by simp only [go_sem, AG, dueC, zeroD, e0, e1, e2, c1, c2, behind]; exact Is.rfl') ?_
      repeat (first | refine aops_op' rfl (by simp only [go_sem, AG, dueC, zeroD, e0, e1, e2, c1, c2]; exact ⟨rfl, rfl⟩) ?_ | refine g_run ?_ | refine g_off ?_ | refine aops_nil (d_end ?_) | refine aops_nil ?_ | refine awp_seq ?_ | refine g_text ?_ | refine g_draw Tryd.mixed ?_ | refine awp_block ?_ | refine awp_skip ?_ | (refine awp_exit ?_; simp only [thenA, blockA, ↓reduceIte, Nat.reduceEqDiff, reduceCtorEq]) | refine awp_yes' (by simp only [go_sem, AG, dueC, zeroD, e0, e1, e2, c1, c2]; exact Is.rfl') ?_ | refine awp_no' (by simp only [go_sem, AG, dueC, zeroD, e0, e1, e2, c1, c2]; exact Is.rfl') ?_)
      refine aops_inl [(1000, 1000), (1001, 1001), (1002, 1002)] rfl (fL) (by decide) (by decide) (by simp only [go_sem, AG, dueC, zeroD, e0, e1, e2, c1, c2] <;> rfl) (by simp only [go_sem, AG, dueC, zeroD, e0, e1, e2, c1, c2, and_self] <;> trivial) (by simp only [go_sem, AG, dueC, zeroD, e0, e1, e2, c1, c2, and_self] <;> trivial) (by intro o; simp only [go_sem, AG, dueC, zeroD, e0, e1, e2, c1, c2, behind, and_self] <;> trivial) (by intro o; simp only [go_sem, AG, dueC, zeroD, e0, e1, e2, c1, c2] <;> rfl) (by simp only [go_sem, AG, dueC, zeroD, e0, e1, e2, c1, c2, behind]; exact Is.rfl') (by simp only [go_sem, AG, dueC, zeroD, e0, e1, e2, c1, c2, behind]; exact Is.rfl') ?_
      repeat (first | refine aops_op' rfl (by simp only [go_sem, AG, dueC, zeroD, e0, e1, e2, c1, c2]; exact ⟨rfl, rfl⟩) ?_ | refine g_run ?_ | refine g_off ?_ | refine aops_nil (d_end ?_) | refine aops_nil ?_ | refine awp_seq ?_ | refine g_text ?_ | refine g_draw Tryd.mixed ?_ | refine awp_block ?_ | refine awp_skip ?_ | (refine awp_exit ?_; simp only [thenA, blockA, ↓reduceIte, Nat.reduceEqDiff, reduceCtorEq]) | refine awp_yes' (by simp only [go_sem, AG, dueC, zeroD, e0, e1, e2, c1, c2]; exact Is.rfl') ?_ | refine awp_no' (by simp only [go_sem, AG, dueC, zeroD, e0, e1, e2, c1, c2]; exact Is.rfl') ?_)
      refine aops_inl [(1000, 1000), (1001, 1001), (1002, 1002)] rfl (fH) (by decide) (by decide) (by simp only [go_sem, AG, dueC, zeroD, e0, e1, e2, c1, c2] <;> rfl) (by simp only [go_sem, AG, dueC, zeroD, e0, e1, e2, c1, c2, and_self] <;> trivial) (by simp only [go_sem, AG, dueC, zeroD, e0, e1, e2, c1, c2, and_self] <;> trivial) (by intro o; simp only [go_sem, AG, dueC, zeroD, e0, e1, e2, c1, c2, behind, and_self] <;> trivial) (by intro o; simp only [go_sem, AG, dueC, zeroD, e0, e1, e2, c1, c2] <;> rfl) (by simp only [go_sem, AG, dueC, zeroD, e0, e1, e2, c1, c2, behind]; exact Is.rfl') (by simp only [go_sem, AG, dueC, zeroD, e0, e1, e2, c1, c2, behind]; exact Is.rfl') ?_
      repeat (first | refine aops_op' rfl (by simp only [go_sem, AG, dueC, zeroD, e0, e1, e2, c1, c2]; exact ⟨rfl, rfl⟩) ?_ | refine g_run ?_ | refine g_off ?_ | refine aops_call' rfl (fW) (by simp only [go_sem, AG, dueC, zeroD, e0, e1, e2, c1, c2]; exact Is.rfl') (by simp only [go_sem, AG, dueC, zeroD, e0, e1, e2, c1, c2]; exact ⟨rfl, rfl⟩) ?_ | refine aops_nil (d_end ?_) | refine aops_nil ?_ | refine awp_seq ?_ | refine g_text ?_ | refine g_draw Tryd.mixed ?_ | refine awp_block ?_ | refine awp_skip ?_ | (refine awp_exit ?_; simp only [thenA, blockA, ↓reduceIte, Nat.reduceEqDiff, reduceCtorEq]) | refine awp_yes' (by simp only [go_sem, AG, dueC, zeroD, e0, e1, e2, c1, c2]; exact Is.rfl') ?_ | refine awp_no' (by simp only [go_sem, AG, dueC, zeroD, e0, e1, e2, c1, c2]; exact Is.rfl') ?_)
      (refine awp_ret ?_; show (resRd _ _ _).run _ = some _; simp only [go_sem, AG, dueC, zeroD, e0, e1, e2, c1, c2])
    | cons d lb =>
      obtain ⟨e, we, hwe⟩ : ∃ e we, w.drop u.length = e :: we := by
        cases hq : w.drop u.length with
        | nil => rw [hq] at hRb; exact absurd (hRb.nil_iff.2 rfl) (by simp)
        | cons e we => exact ⟨e, we, rfl⟩
      rw [hwe] at hRb
      have he := hRb.head
      subst he
      have hlt2 := hend d (by have := congrArg (fun q : List Due => q[0]?) hwe; simpa using this)
      simp only [if_pos hlt2] at fT
      repeat (first | refine aops_op' rfl (by simp only [go_sem, AG, dueC, zeroD, e0, e1, e2, c1, c2]; exact ⟨rfl, rfl⟩) ?_ | refine g_run ?_ | refine g_off ?_ | refine aops_nil (d_end ?_) | refine aops_nil ?_ | refine awp_seq ?_ | refine g_text ?_ | refine g_draw Tryd.mixed ?_ | refine awp_block ?_ | refine awp_skip ?_ | (refine awp_exit ?_; simp only [thenA, blockA, ↓reduceIte, Nat.reduceEqDiff, reduceCtorEq]) | refine awp_yes' (by simp only [go_sem, AG, dueC, zeroD, e0, e1, e2, c1, c2]; exact Is.rfl') ?_ | refine awp_no' (by simp only [go_sem, AG, dueC, zeroD, e0, e1, e2, c1, c2]; exact Is.rfl') ?_)
      refine aops_inl [(1000, 1000), (1001, 1001), (1002, 1002)] rfl (fT) (by decide) (by decide) (by simp only [go_sem, AG, dueC, zeroD, e0, e1, e2, c1, c2] <;> rfl) (by simp only [go_sem, AG, dueC, zeroD, e0, e1, e2, c1, c2, and_self] <;> trivial) (by simp only [go_sem, AG, dueC, zeroD, e0, e1, e2, c1, c2, and_self] <;> trivial) (by intro o; simp only [go_sem, AG, dueC, zeroD, e0, e1, e2, c1, c2, behind, and_self] <;> trivial) (by intro o; simp only [go_sem, AG, dueC, zeroD, e0, e1, e2, c1, c2] <;> rfl) (by simp only [go_sem, AG, dueC, zeroD, e0, e1, e2, c1, c2, behind]; exact Is.rfl') (by simp only [go_sem, AG, dueC, zeroD, e0, e1, e2, c1, c2, behind]; exact Is.rfl') ?_
      repeat (first | refine aops_op' rfl (by simp only [go_sem, AG, dueC, zeroD, e0, e1, e2, c1, c2]; exact ⟨rfl, rfl⟩) ?_ | refine g_run ?_ | refine g_off ?_ | refine aops_nil (d_end ?_) | refine aops_nil ?_ | refine awp_seq ?_ | refine g_text ?_ | refine g_draw Tryd.mixed ?_ | refine awp_block ?_ | refine awp_skip ?_ | (refine awp_exit ?_; simp only [thenA, blockA, ↓reduceIte, Nat.reduceEqDiff, reduceCtorEq]) | refine awp_yes' (by simp only [go_sem, AG, dueC, zeroD, e0, e1, e2, c1, c2]; exact Is.rfl') ?_ | refine awp_no' (by simp only [go_sem, AG, dueC, zeroD, e0, e1, e2, c1, c2]; exact Is.rfl') ?_)
      refine aops_inl [(1000, 1000), (1001, 1001), (1002, 1002)] rfl (fL) (by decide) (by decide) (by simp only [go_sem, AG, dueC, zeroD, e0, e1, e2, c1, c2] <;> rfl) (by simp only [go_sem, AG, dueC, zeroD, e0, e1, e2, c1, c2, and_self] <;> trivial) (by simp only [go_sem, AG, dueC, zeroD, e0, e1, e2, c1, c2, and_self] <;> trivial) (by intro o; simp only [go_sem, AG, dueC, zeroD, e0, e1, e2, c1, c2, behind, and_self] <;> trivial) (by intro o; simp only [go_sem, AG, dueC, zeroD, e0, e1, e2, c1, c2] <;> rfl) (by simp only [go_sem, AG, dueC, zeroD, e0, e1, e2, c1, c2, behind]; exact Is.rfl') (by simp only [go_sem, AG, dueC, zeroD, e0, e1, e2, c1, c2, behind]; exact Is.rfl') ?_
      repeat (first | refine aops_op' rfl (by simp only [go_sem, AG, dueC, zeroD, e0, e1, e2, c1, c2]; exact ⟨rfl, rfl⟩) ?_ | refine g_run ?_ | refine g_off ?_ | refine aops_nil (d_end ?_) | refine aops_nil ?_ | refine awp_seq ?_ | refine g_text ?_ | refine g_draw Tryd.mixed ?_ | refine awp_block ?_ | refine awp_skip ?_ | (refine awp_exit ?_; simp only [thenA, blockA, ↓reduceIte, Nat.reduceEqDiff, reduceCtorEq]) | refine awp_yes' (by simp only [go_sem, AG, dueC, zeroD, e0, e1, e2, c1, c2]; exact Is.rfl') ?_ | refine awp_no' (by simp only [go_sem, AG, dueC, zeroD, e0, e1, e2, c1, c2]; exact Is.rfl') ?_)
      refine aops_inl [(1000, 1000), (1001, 1001), (1002, 1002)] rfl (fH) (by decide) (by decide) (by simp only [go_sem, AG, dueC, zeroD, e0, e1, e2, c1, c2] <;> rfl) (by simp only [go_sem, AG, dueC, zeroD, e0, e1, e2, c1, c2, and_self] <;> trivial) (by simp only [go_sem, AG, dueC, zeroD, e0, e1, e2, c1, c2, and_self] <;> trivial) (by intro o; simp only [go_sem, AG, dueC, zeroD, e0, e1, e2, c1, c2, behind, and_self] <;> trivial) (by intro o; simp only [go_sem, AG, dueC, zeroD, e0, e1, e2, c1, c2] <;> rfl) (by simp only [go_sem, AG, dueC, zeroD, e0, e1, e2, c1, c2, behind]; exact Is.rfl') (by simp only [go_sem, AG, dueC, zeroD, e0, e1, e2, c1, c2, behind]; exact Is.rfl') ?_
      repeat (first | refine aops_op' rfl (by simp only [go_sem, AG, dueC, zeroD, e0, e1, e2, c1, c2]; exact ⟨rfl, rfl⟩) ?_ | refine g_run ?_ | refine g_off ?_ | refine aops_call' rfl (fW) (by simp only [go_sem, AG, dueC, zeroD, e0, e1, e2, c1, c2]; exact Is.rfl') (by simp only [go_sem, AG, dueC, zeroD, e0, e1, e2, c1, c2]; exact ⟨rfl, rfl⟩) ?_ | refine aops_nil (d_end ?_) | refine aops_nil ?_ | refine awp_seq ?_ | refine g_text ?_ | refine g_draw Tryd.mixed ?_ | refine awp_block ?_ | refine awp_skip ?_ | (refine awp_exit ?_; simp only [thenA, blockA, ↓reduceIte, Nat.reduceEqDiff, reduceCtorEq]) | refine awp_yes' (by simp only [go_sem, AG, dueC, zeroD, e0, e1, e2, c1, c2]; exact Is.rfl') ?_ | refine awp_no' (by simp only [go_sem, AG, dueC, zeroD, e0, e1, e2, c1, c2]; exact Is.rfl') ?_)
      (refine awp_ret ?_; show (resRd _ _ _).run _ = some _; simp only [go_sem, AG, dueC, zeroD, e0, e1, e2, c1, c2])
end Go.Proofs.YthepkabfiooabaaDoor
