/- An agenda as rows: All, Until, DropAll. -/
import Derived.Test.YthepkabfiooabaaDoorTK
set_option linter.unusedSimpArgs false
namespace Go.Proofs.YthepkabfiooabaaDoor
open Go.RowKit
set_option maxRecDepth 100000
set_option maxHeartbeats 4000000
attribute [local go_sem_proc ↓] reduceIte
attribute [local go_sem_proc] reduceCtorEq Nat.reduceBEq Nat.reduceAdd Nat.reduceSub Nat.reduceEqDiff Nat.reduceLT Nat.reduceLeDiff Nat.reduceMul Int.reduceToNat Int.reduceBEq Int.reduceBNe Int.reduceEq Int.reduceLT Int.reduceLE
attribute [local go_sem] ev_clear ev_makeFunc funcRd evClear List.isEmpty_cons Array.isEmpty_iff ev_makeMap ev_lookup ev_mapUpdate ev_delete evMakeMap evLookup evMapUpdate evDelete pureOf keyCmp mfind oneCells Rd.map AV.bare AV.bare.bareL AV.ofVal resRd resOne resAll HoldF HoldR Takes thenA blockA ev_move ev_assign ev_pick ev_alloc ev_box ev_build ev_buildSlice ev_load ev_store ev_binOp ev_unOp ev_convert ev_iface ev_make ev_slice ev_fieldAddr ev_field ev_indexAddr ev_index ev_extract ev_len ev_append ev_min ev_max evMin evMax gt_tmp gt_int gt_bool gt_str gt_nilS gt_nilP gt_nilI pickRd allocRd buildRd sliceRd loadRd unRd ifaceRd exRd val optRd callRd seen AV.plain adopt fzArgs Rd.run AV.asCells newBox runL Comes' Rd.row Rd.bind Out.app apps Eff.app St.renew St.setRow St.show St.put St.init upd evStore evBinR evBin eqFs eqCell evConv evSeq evLen evIndexAddr evFieldAddr evField evIndex bound evSlice evSliceF evAppend evMake loadOf fillAV fillEs fzParts fz fzCell fzCells shows isConstOp splice wrs wes Value.oneCell' List.getD_cons_zero List.getD_cons_succ List.getD_nil List.length_cons List.length_nil List.map_cons List.map_nil List.nil_append List.cons_append List.all_cons List.all_nil List.getElem?_cons_zero List.getElem?_cons_succ List.set_cons_zero List.set_cons_succ List.take_succ_cons List.take_zero List.drop_succ_cons List.drop_zero List.take_nil List.drop_nil List.replicate_succ List.replicate_zero Bool.and_true Bool.true_and Bool.and_self and_self true_and and_true Nat.zero_add Nat.add_zero Option.some.injEq Nat.zero_lt_succ Bool.not_true Bool.not_false ne_eq not_true_eq_false not_false_eq_true Option.map_some Option.map_none List.toList_toArray head headF headR List.length_map Int.toNat_natCast Int.natCast_nonneg List.getElem?_map decide_true decide_false Bool.false_eq_true if_true if_false Bool.or_self Bool.or_true Bool.true_or Bool.false_or Bool.or_false Bool.and_false Bool.false_and List.flatten_cons List.flatten_nil List.append_nil nat0 or_self or_false false_or or_true true_or and_false false_and List.length_append List.isEmpty_nil bne_self_eq_false beq_self_eq_true fits_small strL_l bytesOf_map wants Int.cast_ofNat_Int gt_iff_lt ge_iff_le
attribute [local go_sem ←] List.map_drop List.map_take
attribute [local go_sem] nilRd ev_nilCheck tmpsAre resI resIs cellRd HoldI toRL toKL gin gout nout vin grownR lay AV.ren AV.ren.renL Row.ren headR Option.bind_some Option.bind_none Option.isSome_some Option.isSome_none Option.getD_some Bool.true_eq_false PreOk PostOk EscOk wrs wes List.cons.injEq Prod.mk.injEq forall_const

theorem flat_due (l : List Due) : flatAV (.own 32 3 (l.map dueC)) = true := flatss_map (f := dueC) (fun x => by simp [dueC, flatAV.flats, flatAV]) l
theorem tall_con (env : Env) (l : List Due) (M : Mp) (hl : l.length ≤ 4096) : ConI Tryd.prog env 12 [1000, 1001, 1002, 9] (fun k => k == 9) (fun g => [.loc 1000 (g 1000) 0 0]) (fun g => AG g l M) (fun g => AG g l M ++ [(9, ⟨3, (sortD l).map dueC, 32, true⟩)]) (fun g => .row 9 (g 9)) := by
  have f1 := (clone_con env l hl).lend (flat_due l)
  have f2 := sorted_con env l hl
  refine ⟨Tryd.call12, _, _, Tryd.func12, rfl, (by intro _; rw [Tryd.ntmps12]; simp), ?_⟩
  intro vs esc hesc
  rw [Tryd.ntmps12, Tryd.results12]
  have e0 := hesc 1000 (by simp)
  have e1 := hesc 1001 (by simp)
  have e2 := hesc 1002 (by simp)
  have e3 := hesc 9 (by simp)
  repeat (first | refine aops_op' rfl (by simp only [go_sem, AG, e0, e1, e2, e3]; exact ⟨rfl, rfl⟩) ?_ | refine g_run ?_ | refine g_off ?_ | refine aops_nil (d_end ?_) | refine aops_nil ?_ | refine awp_seq ?_ | refine g_text ?_ | refine g_draw Tryd.mixed ?_ | refine awp_block ?_ | refine awp_skip ?_ | (refine awp_exit ?_; simp only [thenA, blockA, ↓reduceIte, Nat.reduceEqDiff, reduceCtorEq]) | refine awp_yes' (by simp only [go_sem, AG, e0, e1, e2, e3]; exact Is.rfl') ?_ | refine awp_no' (by simp only [go_sem, AG, e0, e1, e2, e3]; exact Is.rfl') ?_)
  refine aops_lend' rfl (f1) (by simp only [go_sem, AG, e0, e1, e2, e3]; exact Is.rfl') (by simp only [go_sem, AG, e0, e1, e2, e3]; exact ⟨rfl, rfl⟩) ?_
  refine aops_inl [(1000, 9)] rfl f2 (by decide) (by decide) (by simp only [go_sem] <;> rfl) (by simp only [go_sem, and_self] <;> trivial) (by simp only [go_sem, and_self] <;> trivial) (by intro o; simp only [go_sem, behind, and_self] <;> trivial) (by intro o; simp only [go_sem] <;> rfl) (by simp only [go_sem, behind]; exact Is.rfl') (by simp only [go_sem, behind]; exact Is.rfl') ?_
  repeat (first | refine aops_op' rfl (by simp only [go_sem, AG, e0, e1, e2, e3]; exact ⟨rfl, rfl⟩) ?_ | refine g_run ?_ | refine g_off ?_ | refine aops_nil (d_end ?_) | refine aops_nil ?_ | refine awp_seq ?_ | refine g_text ?_ | refine g_draw Tryd.mixed ?_ | refine awp_block ?_ | refine awp_skip ?_ | (refine awp_exit ?_; simp only [thenA, blockA, ↓reduceIte, Nat.reduceEqDiff, reduceCtorEq]) | refine awp_yes' (by simp only [go_sem, AG, e0, e1, e2, e3]; exact Is.rfl') ?_ | refine awp_no' (by simp only [go_sem, AG, e0, e1, e2, e3]; exact Is.rfl') ?_)
  (refine awp_ret ?_; (try simp only [thenA, blockA, ↓reduceIte, Nat.reduceEqDiff, reduceCtorEq]); refine retI_of ?_ ?_ <;> simp only [go_sem, AG, e0, e1, e2, e3, implies_true, and_self, imp_self, false_implies, AV.tuple.injEq, exists_eq_left', ne_eq])
end Go.Proofs.YthepkabfiooabaaDoor
