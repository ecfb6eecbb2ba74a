/- The law TimerNil, walked. -/
import Derived.Test.YthepkabfiooabaaDoorTZ2
set_option linter.unusedSimpArgs false
namespace Go.Proofs.YthepkabfiooabaaDoor
open Go.RowKit
set_option maxRecDepth 100000
set_option maxHeartbeats 4000000
attribute [local go_sem_proc ↓] reduceIte
attribute [local go_sem_proc] reduceCtorEq Nat.reduceBEq Nat.reduceAdd Nat.reduceSub Nat.reduceEqDiff Nat.reduceLT Nat.reduceLeDiff Nat.reduceMul Int.reduceToNat Int.reduceBEq Int.reduceBNe Int.reduceEq Int.reduceLT Int.reduceLE
attribute [local go_sem] ev_clear ev_makeFunc funcRd evClear List.isEmpty_cons Array.isEmpty_iff ev_makeMap ev_lookup ev_mapUpdate ev_delete evMakeMap evLookup evMapUpdate evDelete pureOf keyCmp mfind oneCells Rd.map AV.bare AV.bare.bareL AV.ofVal resRd resOne resAll HoldF HoldR Takes thenA blockA ev_move ev_assign ev_pick ev_alloc ev_box ev_build ev_buildSlice ev_load ev_store ev_binOp ev_unOp ev_convert ev_iface ev_make ev_slice ev_fieldAddr ev_field ev_indexAddr ev_index ev_extract ev_len ev_append ev_min ev_max evMin evMax gt_tmp gt_int gt_bool gt_str gt_nilS gt_nilP gt_nilI pickRd allocRd buildRd sliceRd loadRd unRd ifaceRd exRd val optRd callRd seen AV.plain adopt fzArgs Rd.run AV.asCells newBox runL Comes' Rd.row Rd.bind Out.app apps Eff.app St.renew St.setRow St.show St.put St.init upd evStore evBinR evBin eqFs eqCell evConv evSeq evLen evIndexAddr evFieldAddr evField evIndex bound evSlice evSliceF evAppend evMake loadOf fillAV fillEs fzParts fz fzCell fzCells shows isConstOp splice wrs wes Value.oneCell' List.getD_cons_zero List.getD_cons_succ List.getD_nil List.length_cons List.length_nil List.map_cons List.map_nil List.nil_append List.cons_append List.all_cons List.all_nil List.getElem?_cons_zero List.getElem?_cons_succ List.set_cons_zero List.set_cons_succ List.take_succ_cons List.take_zero List.drop_succ_cons List.drop_zero List.take_nil List.drop_nil List.replicate_succ List.replicate_zero Bool.and_true Bool.true_and Bool.and_self and_self true_and and_true Nat.zero_add Nat.add_zero Option.some.injEq Nat.zero_lt_succ Bool.not_true Bool.not_false ne_eq not_true_eq_false not_false_eq_true Option.map_some Option.map_none List.toList_toArray head headF headR List.length_map Int.toNat_natCast Int.natCast_nonneg List.getElem?_map decide_true decide_false Bool.false_eq_true if_true if_false Bool.or_self Bool.or_true Bool.true_or Bool.false_or Bool.or_false Bool.and_false Bool.false_and List.flatten_cons List.flatten_nil List.append_nil nat0 or_self or_false false_or or_true true_or and_false false_and List.length_append List.isEmpty_nil bne_self_eq_false beq_self_eq_true fits_small strL_l bytesOf_map wants Int.cast_ofNat_Int gt_iff_lt ge_iff_le
attribute [local go_sem ←] List.map_drop List.map_take
attribute [local go_sem] nilRd ev_nilCheck tmpsAre resI resIs cellRd HoldI toRL toKL gin gout nout vin grownR lay AV.ren AV.ren.renL Row.ren headR Option.bind_some Option.bind_none Option.isSome_some Option.isSome_none Option.getD_some Bool.true_eq_false PreOk PostOk EscOk wrs wes List.cons.injEq Prod.mk.injEq forall_const

abbrev nilP : AV := .lit (.pointer none)
section
variable (ad : Nat → Addr) (mo : More)
theorem nput_con (d : Due) : Con Tryd.prog (errEnv ad mo) 10 [nilP, .agg (dueC d)] (.tuple [B false, errV (-1) (sentV (ad 7))]) := by
  have f3 := new_con (errEnv ad mo) [116, 105, 109, 101, 114, 46, 80, 117, 116] (ad 7)
  refine con_of_body Tryd.func10 rfl Tryd.call10 (by rw [Tryd.ntmps10]; simp) ?_
  rw [Tryd.ntmps10, Tryd.results10]
  repeat (first | refine aops_op' rfl (by simp only [go_sem, dueC, gt_e7]; exact ⟨rfl, rfl⟩) ?_ | refine g_run ?_ | refine g_off ?_ | refine aops_call' rfl (f3) (by simp only [go_sem, dueC, gt_e7]; exact Is.rfl') (by simp only [go_sem, dueC, gt_e7]; exact ⟨rfl, rfl⟩) ?_ | refine aops_nil (d_end ?_) | refine aops_nil ?_ | refine awp_seq ?_ | refine g_text ?_ | refine g_draw Tryd.mixed ?_ | refine awp_block ?_ | refine awp_skip ?_ | (refine awp_exit ?_; simp only [thenA, blockA, ↓reduceIte, Nat.reduceEqDiff, reduceCtorEq]) | refine awp_yes' (by simp only [go_sem, dueC, gt_e7]; exact Is.rfl') ?_ | refine awp_no' (by simp only [go_sem, dueC, gt_e7]; exact Is.rfl') ?_)
  (refine awp_ret ?_; show (resRd _ _ _).run _ = some _; simp only [go_sem, dueC, gt_e7])
theorem ntake_con (n : Int) : Con Tryd.prog (errEnv ad mo) 17 [nilP, I n] (.tuple [.agg (dueC zeroD), B false, errV (-1) (sentV (ad 7))]) := by
  have f3 := new_con (errEnv ad mo) [116, 105, 109, 101, 114, 46, 84, 97, 107, 101] (ad 7)
  refine con_of_body Tryd.func17 rfl Tryd.call17 (by rw [Tryd.ntmps17]; simp) ?_
  rw [Tryd.ntmps17, Tryd.results17]
  repeat (first | refine aops_op' rfl (by simp only [go_sem, dueC, zeroD, gt_e7]; exact ⟨rfl, rfl⟩) ?_ | refine g_run ?_ | refine g_off ?_ | refine aops_call' rfl (f3) (by simp only [go_sem, dueC, zeroD, gt_e7]; exact Is.rfl') (by simp only [go_sem, dueC, zeroD, gt_e7]; exact ⟨rfl, rfl⟩) ?_ | refine aops_nil (d_end ?_) | refine aops_nil ?_ | refine awp_seq ?_ | refine g_text ?_ | refine g_draw Tryd.mixed ?_ | refine awp_block ?_ | refine awp_skip ?_ | (refine awp_exit ?_; simp only [thenA, blockA, ↓reduceIte, Nat.reduceEqDiff, reduceCtorEq]) | refine awp_yes' (by simp only [go_sem, dueC, zeroD, gt_e7]; exact Is.rfl') ?_ | refine awp_no' (by simp only [go_sem, dueC, zeroD, gt_e7]; exact Is.rfl') ?_)
  (refine awp_ret ?_; show (resRd _ _ _).run _ = some _; simp only [go_sem, dueC, zeroD, gt_e7])
theorem ndrop_con (n : Int) (s : List UInt8) : Con Tryd.prog (errEnv ad mo) 23 [nilP, I n, Sg s] (errV (-1) (sentV (ad 7))) := by
  have f3 := new_con (errEnv ad mo) [116, 105, 109, 101, 114, 46, 68, 114, 111, 112] (ad 7)
  refine con_of_body Tryd.func23 rfl Tryd.call23 (by rw [Tryd.ntmps23]; simp) ?_
  rw [Tryd.ntmps23, Tryd.results23]
  repeat (first | refine aops_op' rfl (by simp only [go_sem, gt_e7]; exact ⟨rfl, rfl⟩) ?_ | refine g_run ?_ | refine g_off ?_ | refine aops_call' rfl (f3) (by simp only [go_sem, gt_e7]; exact Is.rfl') (by simp only [go_sem, gt_e7]; exact ⟨rfl, rfl⟩) ?_ | refine aops_nil (d_end ?_) | refine aops_nil ?_ | refine awp_seq ?_ | refine g_text ?_ | refine g_draw Tryd.mixed ?_ | refine awp_block ?_ | refine awp_skip ?_ | (refine awp_exit ?_; simp only [thenA, blockA, ↓reduceIte, Nat.reduceEqDiff, reduceCtorEq]) | refine awp_yes' (by simp only [go_sem, gt_e7]; exact Is.rfl') ?_ | refine awp_no' (by simp only [go_sem, gt_e7]; exact Is.rfl') ?_)
  (refine awp_ret ?_; show (resRd _ _ _).run _ = some _; simp only [go_sem, gt_e7])
end
theorem nlen_con (env : Env) : Con Tryd.prog env 18 [nilP] (I 0) := by
  refine con_of_body Tryd.func18 rfl Tryd.call18 (by rw [Tryd.ntmps18]; simp) ?_
  rw [Tryd.ntmps18, Tryd.results18]
  repeat (first | refine aops_op' rfl (by simp only [go_sem]; exact ⟨rfl, rfl⟩) ?_ | refine g_run ?_ | refine g_off ?_ | refine aops_nil (d_end ?_) | refine aops_nil ?_ | refine awp_seq ?_ | refine g_text ?_ | refine g_draw Tryd.mixed ?_ | refine awp_block ?_ | refine awp_skip ?_ | (refine awp_exit ?_; simp only [thenA, blockA, ↓reduceIte, Nat.reduceEqDiff, reduceCtorEq]) | refine awp_yes' (by simp only [go_sem]; exact Is.rfl') ?_ | refine awp_no' (by simp only [go_sem]; exact Is.rfl') ?_)
  (refine awp_ret ?_; show (resRd _ _ _).run _ = some _; simp only [go_sem])
theorem nfirst_con (env : Env) : Con Tryd.prog env 22 [nilP] (.tuple [.agg (dueC zeroD), B false]) := by
  have f1 := nlen_con env
  refine con_of_body Tryd.func22 rfl Tryd.call22 (by rw [Tryd.ntmps22]; simp) ?_
  rw [Tryd.ntmps22, Tryd.results22]
  repeat (first | refine aops_op' rfl (by simp only [go_sem, dueC, zeroD]; exact ⟨rfl, rfl⟩) ?_ | refine g_run ?_ | refine g_off ?_ | refine aops_call' rfl (f1) (by simp only [go_sem, dueC, zeroD]; exact Is.rfl') (by simp only [go_sem, dueC, zeroD]; exact ⟨rfl, rfl⟩) ?_ | refine aops_nil (d_end ?_) | refine aops_nil ?_ | refine awp_seq ?_ | refine g_text ?_ | refine g_draw Tryd.mixed ?_ | refine awp_block ?_ | refine awp_skip ?_ | (refine awp_exit ?_; simp only [thenA, blockA, ↓reduceIte, Nat.reduceEqDiff, reduceCtorEq]) | refine awp_yes' (by simp only [go_sem, dueC, zeroD]; exact Is.rfl') ?_ | refine awp_no' (by simp only [go_sem, dueC, zeroD]; exact Is.rfl') ?_)
  (refine awp_ret ?_; show (resRd _ _ _).run _ = some _; simp only [go_sem, dueC, zeroD])
theorem nall_con (env : Env) : Con Tryd.prog env 12 [nilP] (.lit (.slice none 0 0)) := by
  refine con_of_body Tryd.func12 rfl Tryd.call12 (by rw [Tryd.ntmps12]; simp) ?_
  rw [Tryd.ntmps12, Tryd.results12]
  repeat (first | refine aops_op' rfl (by simp only [go_sem]; exact ⟨rfl, rfl⟩) ?_ | refine g_run ?_ | refine g_off ?_ | refine aops_nil (d_end ?_) | refine aops_nil ?_ | refine awp_seq ?_ | refine g_text ?_ | refine g_draw Tryd.mixed ?_ | refine awp_block ?_ | refine awp_skip ?_ | (refine awp_exit ?_; simp only [thenA, blockA, ↓reduceIte, Nat.reduceEqDiff, reduceCtorEq]) | refine awp_yes' (by simp only [go_sem]; exact Is.rfl') ?_ | refine awp_no' (by simp only [go_sem]; exact Is.rfl') ?_)
  (refine awp_ret ?_; show (resRd _ _ _).run _ = some _; simp only [go_sem])
theorem nwhole_con (env : Env) : Con Tryd.prog env 13 [nilP] (B true) := by
  refine con_of_body Tryd.func13 rfl Tryd.call13 (by rw [Tryd.ntmps13]; simp) ?_
  rw [Tryd.ntmps13, Tryd.results13]
  repeat (first | refine aops_op' rfl (by simp only [go_sem]; exact ⟨rfl, rfl⟩) ?_ | refine g_run ?_ | refine g_off ?_ | refine aops_nil (d_end ?_) | refine aops_nil ?_ | refine awp_seq ?_ | refine g_text ?_ | refine g_draw Tryd.mixed ?_ | refine awp_block ?_ | refine awp_skip ?_ | (refine awp_exit ?_; simp only [thenA, blockA, ↓reduceIte, Nat.reduceEqDiff, reduceCtorEq]) | refine awp_yes' (by simp only [go_sem]; exact Is.rfl') ?_ | refine awp_no' (by simp only [go_sem]; exact Is.rfl') ?_)
  (refine awp_ret ?_; show (resRd _ _ _).run _ = some _; simp only [go_sem])
theorem ndropall_con (env : Env) (n : Int) : Con Tryd.prog env 24 [nilP, I n] (I 0) := by
  have f1 := nall_con env
  refine con_of_body Tryd.func24 rfl Tryd.call24 (by rw [Tryd.ntmps24]; simp) ?_
  rw [Tryd.ntmps24, Tryd.results24]
  repeat (first | refine aops_op' rfl (by simp only [go_sem]; exact ⟨rfl, rfl⟩) ?_ | refine g_run ?_ | refine g_off ?_ | refine aops_call' rfl (f1) (by simp only [go_sem]; exact Is.rfl') (by simp only [go_sem]; exact ⟨rfl, rfl⟩) ?_ | refine aops_nil (d_end ?_) | refine aops_nil ?_ | refine awp_seq ?_ | refine g_text ?_ | refine g_draw Tryd.mixed ?_ | refine awp_block ?_ | refine awp_skip ?_ | (refine awp_exit ?_; simp only [thenA, blockA, ↓reduceIte, Nat.reduceEqDiff, reduceCtorEq]) | refine awp_yes' (by simp only [go_sem]; exact Is.rfl') ?_ | refine awp_no' (by simp only [go_sem]; exact Is.rfl') ?_)
  refine awp_loopH (D := Unit) (fun _ vs => [(5, I 0), (10, I 0), (11, I 0)]) (fun _ vs => []) (fun _ _ esc => True) (fun _ => 0) () ?_ ?_ ?_ ?_
  · trivial
  · (simp only [go_sem])
  · (simp only [go_sem])
  rintro _ vs esc _
  repeat (first | refine aops_op' rfl (by simp only [go_sem]; exact ⟨rfl, rfl⟩) ?_ | refine g_run ?_ | refine g_off ?_ | refine aops_nil (d_end ?_) | refine aops_nil ?_ | refine awp_seq ?_ | refine g_text ?_ | refine g_draw Tryd.mixed ?_ | refine awp_block ?_ | refine awp_skip ?_ | (refine awp_exit ?_; simp only [thenA, blockA, ↓reduceIte, Nat.reduceEqDiff, reduceCtorEq]) | refine awp_yes' (by simp only [go_sem]; exact Is.rfl') ?_ | refine awp_no' (by simp only [go_sem]; exact Is.rfl') ?_)
  (refine awp_ret ?_; show (resRd _ _ _).run _ = some _; simp only [go_sem])
theorem nindexF_con (env : Env) (c : AV) : Con Tryd.prog env 50 [.lit (.slice none 0 0), c] (I (-1)) := by
  refine con_of_body Tryd.func50 rfl Tryd.call50 (by rw [Tryd.ntmps50]; simp) ?_
  rw [Tryd.ntmps50, Tryd.results50]
  repeat (first | refine aops_op' rfl (by simp only [go_sem]; exact ⟨rfl, rfl⟩) ?_ | refine g_run ?_ | refine g_off ?_ | refine aops_nil (d_end ?_) | refine aops_nil ?_ | refine awp_seq ?_ | refine g_text ?_ | refine g_draw Tryd.mixed ?_ | refine awp_block ?_ | refine awp_skip ?_ | (refine awp_exit ?_; simp only [thenA, blockA, ↓reduceIte, Nat.reduceEqDiff, reduceCtorEq]) | refine awp_yes' (by simp only [go_sem]; exact Is.rfl') ?_ | refine awp_no' (by simp only [go_sem]; exact Is.rfl') ?_)
  refine awp_loopH (D := Unit) (fun _ vs => [(7, I 0), (8, I 0)]) (fun _ vs => []) (fun _ _ esc => True) (fun _ => 0) () ?_ ?_ ?_ ?_
  · trivial
  · (simp only [go_sem])
  · (simp only [go_sem])
  rintro _ vs esc _
  repeat (first | refine aops_op' rfl (by simp only [go_sem]; exact ⟨rfl, rfl⟩) ?_ | refine g_run ?_ | refine g_off ?_ | refine aops_nil (d_end ?_) | refine aops_nil ?_ | refine awp_seq ?_ | refine g_text ?_ | refine g_draw Tryd.mixed ?_ | refine awp_block ?_ | refine awp_skip ?_ | (refine awp_exit ?_; simp only [thenA, blockA, ↓reduceIte, Nat.reduceEqDiff, reduceCtorEq]) | refine awp_yes' (by simp only [go_sem]; exact Is.rfl') ?_ | refine awp_no' (by simp only [go_sem]; exact Is.rfl') ?_)
  (refine awp_ret ?_; show (resRd _ _ _).run _ = some _; simp only [go_sem])
theorem ndeleteF_con (env : Env) (g : FuncId) (caps : List (List AV)) : Con Tryd.prog env 37 [.lit (.slice none 0 0), .clo g [.ref 1 caps 0 0]] (.lit (.slice none 0 0)) := by
  have f0 := nindexF_con env (.clo g [.ref 1 caps 0 0])
  refine con_of_body Tryd.func37 rfl Tryd.call37 (by rw [Tryd.ntmps37]; simp) ?_
  rw [Tryd.ntmps37, Tryd.results37]
  repeat (first | refine aops_op' rfl (by simp only [go_sem]; exact ⟨rfl, rfl⟩) ?_ | refine g_run ?_ | refine g_off ?_ | refine aops_call' rfl (f0) (by simp only [go_sem]; exact Is.rfl') (by simp only [go_sem]; exact ⟨rfl, rfl⟩) ?_ | refine aops_nil (d_end ?_) | refine aops_nil ?_ | refine awp_seq ?_ | refine g_text ?_ | refine g_draw Tryd.mixed ?_ | refine awp_block ?_ | refine awp_skip ?_ | (refine awp_exit ?_; simp only [thenA, blockA, ↓reduceIte, Nat.reduceEqDiff, reduceCtorEq]) | refine awp_yes' (by simp only [go_sem]; exact Is.rfl') ?_ | refine awp_no' (by simp only [go_sem]; exact Is.rfl') ?_)
  (refine awp_ret ?_; show (resRd _ _ _).run _ = some _; simp only [go_sem])
theorem nuntil_con (env : Env) (n : Int) : Con Tryd.prog env 16 [nilP, I n] (.lit (.slice none 0 0)) := by
  have f1 := nall_con env
  have f2 := ndeleteF_con env 38 [[I n]]
  refine con_of_body Tryd.func16 rfl Tryd.call16 (by rw [Tryd.ntmps16]; simp) ?_
  rw [Tryd.ntmps16, Tryd.results16]
  repeat (first | refine aops_op' rfl (by simp only [go_sem]; exact ⟨rfl, rfl⟩) ?_ | refine g_run ?_ | refine g_off ?_ | refine aops_call' rfl (f1) (by simp only [go_sem]; exact Is.rfl') (by simp only [go_sem]; exact ⟨rfl, rfl⟩) ?_ | refine aops_call' rfl (f2) (by simp only [go_sem]; exact Is.rfl') (by simp only [go_sem]; exact ⟨rfl, rfl⟩) ?_ | refine aops_nil (d_end ?_) | refine aops_nil ?_ | refine awp_seq ?_ | refine g_text ?_ | refine g_draw Tryd.mixed ?_ | refine awp_block ?_ | refine awp_skip ?_ | (refine awp_exit ?_; simp only [thenA, blockA, ↓reduceIte, Nat.reduceEqDiff, reduceCtorEq]) | refine awp_yes' (by simp only [go_sem]; exact Is.rfl') ?_ | refine awp_no' (by simp only [go_sem]; exact Is.rfl') ?_)
  (refine awp_ret ?_; show (resRd _ _ _).run _ = some _; simp only [go_sem])
/-! An agenda filled from a row of the caller's -/
theorem filledR_con (ad : Nat → Addr) (mo : More) (l : List Due) (hn : ∀ d ∈ l, d.name.length ≤ 9223372036854775807) :
    ConI Tryd.prog (errEnv ad mo) 8 [1000, 1001, 1002, 1003] (fun k => k == 1000 || (k == 1001 || k == 1002)) (fun g => [.row 1003 (g 1003)]) (fun _ => [(1003, ⟨3, l.map dueC, 32, true⟩)]) (fun g => AG g (fillA ad l).1.1 (fillA ad l).1.2 ++ [(1003, ⟨3, l.map dueC, 32, true⟩)]) (fun g => .tuple [.loc 1000 (g 1000) 0 0, dues (fillA ad l).2]) := by
  have f0 := tnew_con (errEnv ad mo)
  refine ⟨Tryd.call8, _, _, Tryd.func8, rfl, (by intro _; rw [Tryd.ntmps8]; simp), ?_⟩
  intro vs esc hesc
  rw [Tryd.ntmps8, Tryd.results8]
  have e0 := hesc 1000 (by simp)
  have e1 := hesc 1001 (by simp)
  have e2 := hesc 1002 (by simp)
  have e3 := hesc 1003 (by simp)
  repeat (first | refine aops_op' rfl (by simp only [go_sem, e0, e1, e2, e3]; exact ⟨rfl, rfl⟩) ?_ | refine g_run ?_ | refine g_off ?_ | refine aops_nil (d_end ?_) | refine aops_nil ?_ | refine awp_seq ?_ | refine g_text ?_ | refine g_draw Tryd.mixed ?_ | refine awp_block ?_ | refine awp_skip ?_ | (refine awp_exit ?_; simp only [thenA, blockA, ↓reduceIte, Nat.reduceEqDiff, reduceCtorEq]) | refine awp_yes' (by simp only [go_sem, e0, e1, e2, e3]; exact Is.rfl') ?_ | refine awp_no' (by simp only [go_sem, e0, e1, e2, e3]; exact Is.rfl') ?_)
  refine aops_inl [(3, 1000), (1001, 1001), (1, 1002)] rfl (f0) (by decide) (by decide) (by simp only [go_sem, e0, e1, e2, e3] <;> rfl) (by simp only [go_sem, e0, e1, e2, e3, and_self] <;> trivial) (by simp only [go_sem, e0, e1, e2, e3, and_self] <;> trivial) (by intro o; simp only [go_sem, e0, e1, e2, e3, behind, and_self] <;> trivial) (by intro o; simp only [go_sem, e0, e1, e2, e3] <;> rfl) (by simp only [go_sem, e0, e1, e2, e3, behind]; exact Is.rfl') (by simp only [go_sem, e0, e1, e2, e3, behind]; exact Is.rfl') ?_
  repeat (first | refine aops_op' rfl (by simp only [go_sem, e0, e1, e2, e3]; exact ⟨rfl, rfl⟩) ?_ | refine g_run ?_ | refine g_off ?_ | refine aops_nil (d_end ?_) | refine aops_nil ?_ | refine awp_seq ?_ | refine g_text ?_ | refine g_draw Tryd.mixed ?_ | refine awp_block ?_ | refine awp_skip ?_ | (refine awp_exit ?_; simp only [thenA, blockA, ↓reduceIte, Nat.reduceEqDiff, reduceCtorEq]) | refine awp_yes' (by simp only [go_sem, e0, e1, e2, e3]; exact Is.rfl') ?_ | refine awp_no' (by simp only [go_sem, e0, e1, e2, e3]; exact Is.rfl') ?_)
  refine awp_frozen 8 5 ⟨3, [], 32, true⟩ rfl (Nat.succ_ne_zero 2) (by simp only [go_sem]; exact Is.rfl') (by simp only [go_sem]; exact Is.rfl') (by simp only [go_sem]; exact Is.rfl') ?_
  refine awp_loopH (D := Nat) (fun n vs' => [(0, .row 1003 (vs' 1003)), (4, .loc 1000 (vs' 1000) 0 0), (5, dues (fillN ad l n).2), (6, I n)]) (fun n vs' => AG vs' (fillN ad l n).1.1 (fillN ad l n).1.2 ++ [(1003, ⟨3, l.map dueC, 32, true⟩)]) (fun n vs' esc' => (n ≤ l.length ∧ n ≤ 100) ∧ esc' 1000 = false ∧ esc' 1001 = false ∧ esc' 1002 = false ∧ esc' 1003 = false ∧ vs' 1003 = vs 1003) (fun n => l.length - n) 0 ?_ ?_ ?_ ?_
  · exact ⟨⟨Nat.zero_le _, Nat.zero_le _⟩, by simp only [go_sem, e0], by simp only [go_sem, e1], by simp only [go_sem, e2], by simp only [go_sem, e3], by simp only [go_sem]⟩
  · (simp only [go_sem, e0, e1, e2, e3])
    rfl
  · (simp only [go_sem, AG])
    exact ⟨rfl, rfl⟩
  clear e0 e1 e2 e3
  rintro n ws es ⟨⟨hl, h100⟩, e0, e1, e2, e3, v3⟩
  obtain ⟨hR, hlen, hmem⟩ := fill_rel ad l n
  by_cases hlt : n < l.length
  · obtain ⟨d, hd⟩ : ∃ x, l[n]? = some x := ⟨l[n], List.getElem?_eq_getElem hlt⟩
    have g1 := nlt hlt
    by_cases h1 : n < 100
    · have g2 := wrap_succ h1 (by omega)
      have g3 : (n : Int) < 100 := by omega
      have hq : fillN ad l (n + 1) = ((putA ad (fillN ad l n).1.1 (fillN ad l n).1.2 d).1, (putW (fillN ad l n).2 d).1) := by rw [fillN, hd]
      have f1 := tput_con ad mo d (fillN ad l n).1.1 (fillN ad l n).1.2 hR.ok (hn d (List.mem_of_getElem? hd)) (by rw [hR.len]; omega)
      have f2 := rput_con (errEnv ad mo) (fillN ad l n).2 d (by omega)
      have hren := told_ren (hR.put ad d).2
      generalize putA ad (fillN ad l n).1.1 (fillN ad l n).1.2 d = p at *
      generalize putW (fillN ad l n).2 d = q at *
      repeat (first | refine aops_op' rfl (by simp only [go_sem, AG, e0, e1, e2, e3, v3, g1, g2, g3, hd, hren]; exact ⟨rfl, rfl⟩) ?_ | refine g_run ?_ | refine g_off ?_ | refine aops_call' rfl (f2) (by simp only [go_sem, AG, e0, e1, e2, e3, v3, g1, g2, g3, hd, hren]; exact Is.rfl') (by simp only [go_sem, AG, e0, e1, e2, e3, v3, g1, g2, g3, hd, hren]; exact ⟨rfl, rfl⟩) ?_ | refine aops_nil (d_end ?_) | refine aops_nil ?_ | refine awp_seq ?_ | refine g_text ?_ | refine g_draw Tryd.mixed ?_ | refine awp_block ?_ | refine awp_skip ?_ | (refine awp_exit ?_; simp only [thenA, blockA, ↓reduceIte, Nat.reduceEqDiff, reduceCtorEq]) | refine awp_yes' (by simp only [go_sem, AG, e0, e1, e2, e3, v3, g1, g2, g3, hd, hren]; exact Is.rfl') ?_ | refine awp_no' (by simp only [go_sem, AG, e0, e1, e2, e3, v3, g1, g2, g3, hd, hren]; exact Is.rfl') ?_)
      refine aops_inl [(1000, 1000), (1001, 1001), (1002, 1002)] rfl (f1) (by decide) (by decide) (by simp only [go_sem, AG, e0, e1, e2, e3, v3, g1, g2, g3, hd, hren] <;> rfl) (by simp only [go_sem, AG, e0, e1, e2, e3, v3, g1, g2, g3, hd, hren, and_self] <;> trivial) (by simp only [go_sem, AG, e0, e1, e2, e3, v3, g1, g2, g3, hd, hren, and_self] <;> trivial) (by intro o; simp only [go_sem, AG, e0, e1, e2, e3, v3, g1, g2, g3, hd, hren, behind, and_self] <;> trivial) (by intro o; simp only [go_sem, AG, e0, e1, e2, e3, v3, g1, g2, g3, hd, hren] <;> rfl) (by simp only [go_sem, AG, e0, e1, e2, e3, v3, g1, g2, g3, hd, hren, behind]; exact Is.rfl') (by simp only [go_sem, AG, e0, e1, e2, e3, v3, g1, g2, g3, hd, hren, behind]; exact Is.rfl') ?_
      repeat (first | refine aops_op' rfl (by simp only [go_sem, AG, e0, e1, e2, e3, v3, g1, g2, g3, hd, hren]; exact ⟨rfl, rfl⟩) ?_ | refine g_run ?_ | refine g_off ?_ | refine aops_call' rfl (f2) (by simp only [go_sem, AG, e0, e1, e2, e3, v3, g1, g2, g3, hd, hren]; exact Is.rfl') (by simp only [go_sem, AG, e0, e1, e2, e3, v3, g1, g2, g3, hd, hren]; exact ⟨rfl, rfl⟩) ?_ | refine aops_nil (d_end ?_) | refine aops_nil ?_ | refine awp_seq ?_ | refine g_text ?_ | refine g_draw Tryd.mixed ?_ | refine awp_block ?_ | refine awp_skip ?_ | (refine awp_exit ?_; simp only [thenA, blockA, ↓reduceIte, Nat.reduceEqDiff, reduceCtorEq]) | refine awp_yes' (by simp only [go_sem, AG, e0, e1, e2, e3, v3, g1, g2, g3, hd, hren]; exact Is.rfl') ?_ | refine awp_no' (by simp only [go_sem, AG, e0, e1, e2, e3, v3, g1, g2, g3, hd, hren]; exact Is.rfl') ?_)
      refine ⟨n + 1, ⟨⟨hlt, h1⟩, ?_, ?_, ?_, ?_, ?_⟩, ?_, ?_, ?_⟩
      · simp only [go_sem, e0]
      · simp only [go_sem, e1]
      · simp only [go_sem, e2]
      · simp only [go_sem, e3]
      · simp only [go_sem, v3]
      · rw [hq]; (simp only [go_sem, AG, e0, e1, e2, e3, v3, g1, g2, g3, hd, hren])
      · rw [hq]; (simp only [go_sem, AG, e0, e1, e2, e3, v3, g1, g2, g3, hd, hren])
      · omega
    · have g3 : ¬ (n : Int) < 100 := by omega
      have hf : fillA ad l = fillN ad l n := by unfold fillA; congr 1; omega
      rw [hf]
      repeat (first | refine aops_op' rfl (by simp only [go_sem, AG, e0, e1, e2, e3, v3, g1, g3]; exact ⟨rfl, rfl⟩) ?_ | refine g_run ?_ | refine g_off ?_ | refine aops_nil (d_end ?_) | refine aops_nil ?_ | refine awp_seq ?_ | refine g_text ?_ | refine g_draw Tryd.mixed ?_ | refine awp_block ?_ | refine awp_skip ?_ | (refine awp_exit ?_; simp only [thenA, blockA, ↓reduceIte, Nat.reduceEqDiff, reduceCtorEq]) | refine awp_yes' (by simp only [go_sem, AG, e0, e1, e2, e3, v3, g1, g3]; exact Is.rfl') ?_ | refine awp_no' (by simp only [go_sem, AG, e0, e1, e2, e3, v3, g1, g3]; exact Is.rfl') ?_)
      (refine awp_ret ?_; (try simp only [thenA, blockA, ↓reduceIte, Nat.reduceEqDiff, reduceCtorEq]); refine retI_of ?_ ?_ <;> simp only [go_sem, AG, e0, e1, e2, e3, v3, g1, g3, implies_true, and_self, imp_self, false_implies, AV.tuple.injEq, exists_eq_left', ne_eq])
  · have g1 : ¬ (n : Int) < (l.length : Int) := by omega
    have hf : fillA ad l = fillN ad l n := by unfold fillA; congr 1; omega
    rw [hf]
    repeat (first | refine aops_op' rfl (by simp only [go_sem, AG, e0, e1, e2, e3, v3, g1]; exact ⟨rfl, rfl⟩) ?_ | refine g_run ?_ | refine g_off ?_ | refine aops_nil (d_end ?_) | refine aops_nil ?_ | refine awp_seq ?_ | refine g_text ?_ | refine g_draw Tryd.mixed ?_ | refine awp_block ?_ | refine awp_skip ?_ | (refine awp_exit ?_; simp only [thenA, blockA, ↓reduceIte, Nat.reduceEqDiff, reduceCtorEq]) | refine awp_yes' (by simp only [go_sem, AG, e0, e1, e2, e3, v3, g1]; exact Is.rfl') ?_ | refine awp_no' (by simp only [go_sem, AG, e0, e1, e2, e3, v3, g1]; exact Is.rfl') ?_)
    (refine awp_ret ?_; (try simp only [thenA, blockA, ↓reduceIte, Nat.reduceEqDiff, reduceCtorEq]); refine retI_of ?_ ?_ <;> simp only [go_sem, AG, e0, e1, e2, e3, v3, g1, implies_true, and_self, imp_self, false_implies, AV.tuple.injEq, exists_eq_left', ne_eq])

def nineD (d : Due) : Due := { d with at_ := -9 }
theorem tnil_con (ad : Nat → Addr) (mo : More) (d : Due) (hn : d.name.length ≤ 9223372036854775807) : Con Tryd.prog (errEnv ad mo) 7 [.agg (dueC d)] (B true) := by
  have f0 := filledR_con ad mo [d, ⟨3, 1, [120]⟩] (by
    intro x hx
    simp only [List.mem_cons, List.not_mem_nil, or_false] at hx
    rcases hx with rfl | rfl
    · exact hn
    · simp)
  have fW := awake33_con ad mo
  obtain ⟨hR, hlen, hmem⟩ := fill_rel ad [d, ⟨3, 1, [120]⟩] (min 2 100)
  have hw : (fillA ad [d, ⟨3, 1, [120]⟩]).2.length ≤ 100 := Nat.le_trans hlen (by decide)
  have hR : Rl (fillA ad [d, ⟨3, 1, [120]⟩]).1.1 (fillA ad [d, ⟨3, 1, [120]⟩]).1.2 (fillA ad [d, ⟨3, 1, [120]⟩]).2 := hR
  clear hlen hmem
  generalize fillA ad [d, ⟨3, 1, [120]⟩] = p at *
  obtain ⟨⟨la, M⟩, w⟩ := p
  simp only at f0 hw hR
  have fA := tall_con (errEnv ad mo) la M (by rw [hR.len]; omega)
  rw [hR.sort] at fA
  have fS := lsame_con (errEnv ad mo) la w M hR (by omega)
  have k7 := tells33_one ad mo 7 (by decide) (-1)
  have n1 := nput_con ad mo d
  have n2 := ntake_con ad mo d.at_
  have n3 := nfirst_con (errEnv ad mo)
  have n4 := ndrop_con ad mo d.inst d.name
  have n5 := ndropall_con (errEnv ad mo) d.inst
  have n6 := nlen_con (errEnv ad mo)
  have n7 := nall_con (errEnv ad mo)
  have n8 := nuntil_con (errEnv ad mo) d.at_
  have n9 := nwhole_con (errEnv ad mo)
  refine con_of_body Tryd.func7 rfl Tryd.call7 (by rw [Tryd.ntmps7]; simp) ?_
  rw [Tryd.ntmps7, Tryd.results7]
  repeat (first | refine aops_op' rfl (by simp only [go_sem, AG, dueC, zeroD]; exact ⟨rfl, rfl⟩) ?_ | refine g_run ?_ | refine g_off ?_ | refine aops_call' rfl (n1) (by simp only [go_sem, AG, dueC, zeroD]; exact Is.rfl') (by simp only [go_sem, AG, dueC, zeroD]; exact ⟨rfl, rfl⟩) ?_ | refine aops_call' rfl (n2) (by simp only [go_sem, AG, dueC, zeroD]; exact Is.rfl') (by simp only [go_sem, AG, dueC, zeroD]; exact ⟨rfl, rfl⟩) ?_ | refine aops_call' rfl (n3) (by simp only [go_sem, AG, dueC, zeroD]; exact Is.rfl') (by simp only [go_sem, AG, dueC, zeroD]; exact ⟨rfl, rfl⟩) ?_ | refine aops_call' rfl (n4) (by simp only [go_sem, AG, dueC, zeroD]; exact Is.rfl') (by simp only [go_sem, AG, dueC, zeroD]; exact ⟨rfl, rfl⟩) ?_ | refine aops_call' rfl (n5) (by simp only [go_sem, AG, dueC, zeroD]; exact Is.rfl') (by simp only [go_sem, AG, dueC, zeroD]; exact ⟨rfl, rfl⟩) ?_ | refine aops_call' rfl (n6) (by simp only [go_sem, AG, dueC, zeroD]; exact Is.rfl') (by simp only [go_sem, AG, dueC, zeroD]; exact ⟨rfl, rfl⟩) ?_ | refine aops_call' rfl (n7) (by simp only [go_sem, AG, dueC, zeroD]; exact Is.rfl') (by simp only [go_sem, AG, dueC, zeroD]; exact ⟨rfl, rfl⟩) ?_ | refine aops_call' rfl (n8) (by simp only [go_sem, AG, dueC, zeroD]; exact Is.rfl') (by simp only [go_sem, AG, dueC, zeroD]; exact ⟨rfl, rfl⟩) ?_ | refine aops_call' rfl (n9) (by simp only [go_sem, AG, dueC, zeroD]; exact Is.rfl') (by simp only [go_sem, AG, dueC, zeroD]; exact ⟨rfl, rfl⟩) ?_ | refine aops_call' rfl (k7) (by simp only [go_sem, AG, dueC, zeroD]; exact Is.rfl') (by simp only [go_sem, AG, dueC, zeroD]; exact ⟨rfl, rfl⟩) ?_ | refine aops_nil (d_end ?_) | refine aops_nil ?_ | refine awp_seq ?_ | refine g_text ?_ | refine g_draw Tryd.mixed ?_ | refine awp_block ?_ | refine awp_skip ?_ | (refine awp_exit ?_; simp only [thenA, blockA, ↓reduceIte, Nat.reduceEqDiff, reduceCtorEq]) | refine awp_yes' (by simp only [go_sem, AG, dueC, zeroD]; exact Is.rfl') ?_ | refine awp_no' (by simp only [go_sem, AG, dueC, zeroD]; exact Is.rfl') ?_)
  refine aops_inl [(1000, 1000), (1001, 1001), (1002, 1002), (1003, 92)] rfl (f0) (by decide) (by decide) (by simp only [go_sem, AG, dueC, zeroD] <;> rfl) (by simp only [go_sem, AG, dueC, zeroD, and_self] <;> trivial) (by simp only [go_sem, AG, dueC, zeroD, and_self] <;> trivial) (by intro o; simp only [go_sem, AG, dueC, zeroD, behind, and_self] <;> trivial) (by intro o; simp only [go_sem, AG, dueC, zeroD] <;> rfl) (by simp only [go_sem, AG, dueC, zeroD, behind]; exact Is.rfl') (by simp only [go_sem, AG, dueC, zeroD, behind]; exact Is.rfl') ?_
  repeat (first | refine aops_op' rfl (by simp only [go_sem, AG, dueC, zeroD]; exact ⟨rfl, rfl⟩) ?_ | refine g_run ?_ | refine g_off ?_ | refine aops_nil (d_end ?_) | refine aops_nil ?_ | refine awp_seq ?_ | refine g_text ?_ | refine g_draw Tryd.mixed ?_ | refine awp_block ?_ | refine awp_skip ?_ | (refine awp_exit ?_; simp only [thenA, blockA, ↓reduceIte, Nat.reduceEqDiff, reduceCtorEq]) | refine awp_yes' (by simp only [go_sem, AG, dueC, zeroD]; exact Is.rfl') ?_ | refine awp_no' (by simp only [go_sem, AG, dueC, zeroD]; exact Is.rfl') ?_)
  refine aops_inl [(1000, 1000), (1001, 1001), (1002, 1002), (9, 97)] rfl (fA) (by decide) (by decide) (by simp only [go_sem, AG, dueC, zeroD] <;> rfl) (by simp only [go_sem, AG, dueC, zeroD, and_self] <;> trivial) (by simp only [go_sem, AG, dueC, zeroD, and_self] <;> trivial) (by intro o; simp only [go_sem, AG, dueC, zeroD, behind, and_self] <;> trivial) (by intro o; simp only [go_sem, AG, dueC, zeroD] <;> rfl) (by simp only [go_sem, AG, dueC, zeroD, behind]; exact Is.rfl') (by simp only [go_sem, AG, dueC, zeroD, behind]; exact Is.rfl') ?_
  repeat (first | refine aops_op' rfl (by simp only [go_sem, AG, dueC, zeroD]; exact ⟨rfl, rfl⟩) ?_ | refine g_run ?_ | refine g_off ?_ | refine aops_nil (d_end ?_) | refine aops_nil ?_ | refine awp_seq ?_ | refine g_text ?_ | refine g_draw Tryd.mixed ?_ | refine awp_block ?_ | refine awp_skip ?_ | (refine awp_exit ?_; simp only [thenA, blockA, ↓reduceIte, Nat.reduceEqDiff, reduceCtorEq]) | refine awp_yes' (by simp only [go_sem, AG, dueC, zeroD]; exact Is.rfl') ?_ | refine awp_no' (by simp only [go_sem, AG, dueC, zeroD]; exact Is.rfl') ?_)
  refine awp_loopH (D := Nat × List Due) (fun x vs' => [(11, .loc 1000 (vs' 1000) 0 0), (12, dues w), (13, .row 97 (vs' 97)), (14, I (x.1 : Int))]) (fun x vs' => AG vs' la M ++ [(97, ⟨3, x.2.map dueC, 32, true⟩)]) (fun x vs' esc' => (x.1 ≤ w.length ∧ x.2.length = w.length) ∧ esc' 1000 = false ∧ esc' 1001 = false ∧ esc' 1002 = false ∧ esc' 97 = false) (fun x => w.length - x.1) (0, w) ?_ ?_ ?_ ?_
  · exact ⟨⟨Nat.zero_le _, rfl⟩, by simp only [go_sem], by simp only [go_sem], by simp only [go_sem], by simp only [go_sem]⟩
  · (simp only [go_sem, AG, dueC, zeroD])
  · (simp only [go_sem, AG, dueC, zeroD])
  rintro ⟨n, L⟩ ws es ⟨⟨hnw, hL⟩, e0, e1, e2, e3⟩
  simp only at hnw hL
  by_cases hlt : n < w.length
  · obtain ⟨y, hy⟩ : ∃ x, L[n]? = some x := ⟨L[n]'(by omega), List.getElem?_eq_getElem (by omega)⟩
    have g1 : (n : Int) < (L.length : Int) := by omega
    have g2 := wrap_succ hlt (by omega)
    have hs : (L.map dueC).set n (dueC (nineD y)) = (L.set n (nineD y)).map dueC := by rw [List.map_set]
    simp only [dueC, nineD] at hs
    repeat (first | refine aops_op' rfl (by simp only [go_sem, AG, dueC, e0, e1, e2, e3, g1, g2, hy, hs]; exact ⟨rfl, rfl⟩) ?_ | refine g_run ?_ | refine g_off ?_ | refine aops_nil (d_end ?_) | refine aops_nil ?_ | refine awp_seq ?_ | refine g_text ?_ | refine g_draw Tryd.mixed ?_ | refine awp_block ?_ | refine awp_skip ?_ | (refine awp_exit ?_; simp only [thenA, blockA, ↓reduceIte, Nat.reduceEqDiff, reduceCtorEq]) | refine awp_yes' (by simp only [go_sem, AG, dueC, e0, e1, e2, e3, g1, g2, hy, hs]; exact Is.rfl') ?_ | refine awp_no' (by simp only [go_sem, AG, dueC, e0, e1, e2, e3, g1, g2, hy, hs]; exact Is.rfl') ?_)
    refine ⟨(n + 1, L.set n (nineD y)), ⟨⟨hlt, by simpa using hL⟩, ?_, ?_, ?_, ?_⟩, ?_, ?_, ?_⟩
    · simp only [go_sem, e0]
    · simp only [go_sem, e1]
    · simp only [go_sem, e2]
    · simp only [go_sem, e3]
    · (simp only [go_sem, AG, dueC, e0, e1, e2, e3, g1, g2, hy, hs])
    · simp only [nineD]
      (simp only [go_sem, AG, dueC, e0, e1, e2, e3, g1, g2, hy, hs])
    · simp only; omega
  · have g1 : ¬ (n : Int) < (L.length : Int) := by omega
    repeat (first | refine aops_op' rfl (by simp only [go_sem, AG, e0, e1, e2, e3, g1]; exact ⟨rfl, rfl⟩) ?_ | refine g_run ?_ | refine g_off ?_ | refine aops_nil (d_end ?_) | refine aops_nil ?_ | refine awp_seq ?_ | refine g_text ?_ | refine g_draw Tryd.mixed ?_ | refine awp_block ?_ | refine awp_skip ?_ | (refine awp_exit ?_; simp only [thenA, blockA, ↓reduceIte, Nat.reduceEqDiff, reduceCtorEq]) | refine awp_yes' (by simp only [go_sem, AG, e0, e1, e2, e3, g1]; exact Is.rfl') ?_ | refine awp_no' (by simp only [go_sem, AG, e0, e1, e2, e3, g1]; exact Is.rfl') ?_)
    refine aops_inl [(1000, 1000), (1001, 1001), (1002, 1002)] rfl (fS) (by decide) (by decide) (by simp only [go_sem, AG, e0, e1, e2, e3, g1] <;> rfl) (by simp only [go_sem, AG, e0, e1, e2, e3, g1, and_self] <;> trivial) (by simp only [go_sem, AG, e0, e1, e2, e3, g1, and_self] <;> trivial) (by intro o; simp only [go_sem, AG, e0, e1, e2, e3, g1, behind, and_self] <;> trivial) (by intro o; simp only [go_sem, AG, e0, e1, e2, e3, g1] <;> rfl) (by simp only [go_sem, AG, e0, e1, e2, e3, g1, behind]; exact Is.rfl') (by simp only [go_sem, AG, e0, e1, e2, e3, g1, behind]; exact Is.rfl') ?_
    repeat (first | refine aops_op' rfl (by simp only [go_sem, AG, e0, e1, e2, e3, g1]; exact ⟨rfl, rfl⟩) ?_ | refine g_run ?_ | refine g_off ?_ | refine aops_call' rfl (fW) (by simp only [go_sem, AG, e0, e1, e2, e3, g1]; exact Is.rfl') (by simp only [go_sem, AG, e0, e1, e2, e3, g1]; exact ⟨rfl, rfl⟩) ?_ | refine aops_nil (d_end ?_) | refine aops_nil ?_ | refine awp_seq ?_ | refine g_text ?_ | refine g_draw Tryd.mixed ?_ | refine awp_block ?_ | refine awp_skip ?_ | (refine awp_exit ?_; simp only [thenA, blockA, ↓reduceIte, Nat.reduceEqDiff, reduceCtorEq]) | refine awp_yes' (by simp only [go_sem, AG, e0, e1, e2, e3, g1]; exact Is.rfl') ?_ | refine awp_no' (by simp only [go_sem, AG, e0, e1, e2, e3, g1]; exact Is.rfl') ?_)
    (refine awp_ret ?_; show (resRd _ _ _).run _ = some _; simp only [go_sem, AG, e0, e1, e2, e3, g1])
end Go.Proofs.YthepkabfiooabaaDoor
