/- An agenda as rows: New, Put of a due that is not there, First, Len. -/
import Derived.Test.YthepkabfiooabaaDoorTC
set_option linter.unusedSimpArgs false
namespace Go.Proofs.YthepkabfiooabaaDoor
open Go.RowKit
set_option maxRecDepth 100000
set_option maxHeartbeats 2000000
attribute [local go_sem_proc ↓] reduceIte
attribute [local go_sem_proc] reduceCtorEq Nat.reduceBEq Nat.reduceAdd Nat.reduceSub Nat.reduceEqDiff Nat.reduceLT Nat.reduceLeDiff Nat.reduceMul Int.reduceToNat Int.reduceBEq Int.reduceBNe Int.reduceEq Int.reduceLT Int.reduceLE
attribute [local go_sem] ev_clear ev_makeFunc funcRd evClear List.isEmpty_cons Array.isEmpty_iff ev_makeMap ev_lookup ev_mapUpdate ev_delete evMakeMap evLookup evMapUpdate evDelete pureOf keyCmp mfind oneCells Rd.map AV.bare AV.bare.bareL AV.ofVal resRd resOne resAll HoldF HoldR Takes thenA blockA ev_move ev_assign ev_pick ev_alloc ev_box ev_build ev_buildSlice ev_load ev_store ev_binOp ev_unOp ev_convert ev_iface ev_make ev_slice ev_fieldAddr ev_field ev_indexAddr ev_index ev_extract ev_len ev_append ev_min ev_max evMin evMax gt_tmp gt_int gt_bool gt_str gt_nilS gt_nilP gt_nilI pickRd allocRd buildRd sliceRd loadRd unRd ifaceRd exRd val optRd callRd seen AV.plain adopt fzArgs Rd.run AV.asCells newBox runL Comes' Rd.row Rd.bind Out.app apps Eff.app St.renew St.setRow St.show St.put St.init upd evStore evBinR evBin eqFs eqCell evConv evSeq evLen evIndexAddr evFieldAddr evField evIndex bound evSlice evSliceF evAppend evMake loadOf fillAV fillEs fzParts fz fzCell fzCells shows isConstOp splice wrs wes Value.oneCell' List.getD_cons_zero List.getD_cons_succ List.getD_nil List.length_cons List.length_nil List.map_cons List.map_nil List.nil_append List.cons_append List.all_cons List.all_nil List.getElem?_cons_zero List.getElem?_cons_succ List.set_cons_zero List.set_cons_succ List.take_succ_cons List.take_zero List.drop_succ_cons List.drop_zero List.take_nil List.drop_nil List.replicate_succ List.replicate_zero Bool.and_true Bool.true_and Bool.and_self and_self true_and and_true Nat.zero_add Nat.add_zero Option.some.injEq Nat.zero_lt_succ Bool.not_true Bool.not_false ne_eq not_true_eq_false not_false_eq_true Option.map_some Option.map_none List.toList_toArray head headF headR List.length_map Int.toNat_natCast Int.natCast_nonneg List.getElem?_map decide_true decide_false Bool.false_eq_true if_true if_false Bool.or_self Bool.or_true Bool.true_or Bool.false_or Bool.or_false Bool.and_false Bool.false_and List.flatten_cons List.flatten_nil List.append_nil nat0 or_self or_false false_or or_true true_or and_false false_and List.length_append List.isEmpty_nil bne_self_eq_false beq_self_eq_true fits_small strL_l bytesOf_map wants Int.cast_ofNat_Int gt_iff_lt ge_iff_le
attribute [local go_sem ←] List.map_drop List.map_take
attribute [local go_sem] nilRd ev_nilCheck tmpsAre resI resIs cellRd HoldI toRL toKL gin gout nout vin grownR lay AV.ren AV.ren.renL Row.ren headR Option.bind_some Option.bind_none Option.isSome_some Option.isSome_none Option.getD_some Bool.true_eq_false PreOk PostOk EscOk wrs wes List.cons.injEq Prod.mk.injEq forall_const

/-- A new agenda: its block, its map. -/
theorem tnew_con (env : Env) : ConI Tryd.prog env 9 [3, 1001, 1] (fun _ => true) (fun _ => []) (fun _ => []) (fun g => [(3, ⟨2, [[.row 1001 (g 1001), .mp 1 (g 1)]], 61, false⟩), (1001, ⟨3, [], 32, true⟩), (1, ⟨0, [], 59, true⟩)]) (fun g => .loc 3 (g 3) 0 0) := by
  refine ⟨Tryd.call9, _, _, Tryd.func9, rfl, (by intro _; rw [Tryd.ntmps9]; simp), ?_⟩
  intro vs esc hesc
  rw [Tryd.ntmps9, Tryd.results9]
  have e0 := hesc 3 (by simp)
  have e1 := hesc 1 (by simp)
  have e2 := hesc 1001 (by simp)
  repeat (first | refine aops_op' rfl (by simp only [go_sem, e0, e1, e2]; exact ⟨rfl, rfl⟩) ?_ | refine g_run ?_ | refine g_off ?_ | refine aops_nil (d_end ?_) | refine aops_nil ?_ | refine awp_seq ?_ | refine g_text ?_ | refine g_draw Tryd.mixed ?_ | refine awp_block ?_ | refine awp_skip ?_ | (refine awp_exit ?_; simp only [thenA, blockA, ↓reduceIte, Nat.reduceEqDiff, reduceCtorEq]) | refine awp_yes' (by simp only [go_sem, e0, e1, e2]; exact Is.rfl') ?_ | refine awp_no' (by simp only [go_sem, e0, e1, e2]; exact Is.rfl') ?_)
  refine awp_nilcell 3 1001 0 0 ⟨2, [[nilS, .mp 1 (vs 1 + 1)]], 61, false⟩ [nilS, .mp 1 (vs 1 + 1)] 32 3 (by decide) (by decide) (Nat.succ_ne_zero 1) rfl rfl rfl (by simp only [go_sem, e0, e1, e2]; exact Is.rfl') (by simp only [go_sem, e0, e1, e2]; exact Is.rfl') ?_
  (refine awp_ret ?_; (try simp only [thenA, blockA, ↓reduceIte, Nat.reduceEqDiff, reduceCtorEq]); refine retI_of ?_ ?_ <;> simp only [go_sem, e0, e1, e2, implies_true, and_self, imp_self, false_implies, AV.tuple.injEq, exists_eq_left', ne_eq])
theorem tlen_con (env : Env) (l : List Due) (M : Mp) : ConI Tryd.prog env 18 [1000, 1001, 1002] (fun _ => false) (fun g => [.loc 1000 (g 1000) 0 0]) (fun g => AG g l M) (fun g => AG g l M) (fun _ => I l.length) := by
  refine ⟨Tryd.call18, _, _, Tryd.func18, rfl, (by intro _; rw [Tryd.ntmps18]; simp), ?_⟩
  intro vs esc hesc
  rw [Tryd.ntmps18, Tryd.results18]
  have e0 := hesc 1000 (by simp)
  have e1 := hesc 1001 (by simp)
  have e2 := hesc 1002 (by simp)
  repeat (first | refine aops_op' rfl (by simp only [go_sem, AG, e0, e1, e2]; exact ⟨rfl, rfl⟩) ?_ | refine g_run ?_ | refine g_off ?_ | refine aops_nil (d_end ?_) | refine aops_nil ?_ | refine awp_seq ?_ | refine g_text ?_ | refine g_draw Tryd.mixed ?_ | refine awp_block ?_ | refine awp_skip ?_ | (refine awp_exit ?_; simp only [thenA, blockA, ↓reduceIte, Nat.reduceEqDiff, reduceCtorEq]) | refine awp_yes' (by simp only [go_sem, AG, e0, e1, e2]; exact Is.rfl') ?_ | refine awp_no' (by simp only [go_sem, AG, e0, e1, e2]; exact Is.rfl') ?_)
  (refine awp_ret ?_; (try simp only [thenA, blockA, ↓reduceIte, Nat.reduceEqDiff, reduceCtorEq]); refine retI_of ?_ ?_ <;> simp only [go_sem, AG, e0, e1, e2, implies_true, and_self, imp_self, false_implies, AV.tuple.injEq, exists_eq_left', ne_eq])
theorem tfirst_con (env : Env) (d : Due) (l : List Due) (M : Mp) : ConI Tryd.prog env 22 [1000, 1001, 1002] (fun _ => false) (fun g => [.loc 1000 (g 1000) 0 0]) (fun g => AG g (d :: l) M) (fun g => AG g (d :: l) M) (fun _ => .tuple [.agg (dueC d), B true]) := by
  have f1 := tlen_con env (d :: l) M
  refine ⟨Tryd.call22, _, _, Tryd.func22, rfl, (by intro _; rw [Tryd.ntmps22]; simp), ?_⟩
  intro vs esc hesc
  rw [Tryd.ntmps22, Tryd.results22]
  have e0 := hesc 1000 (by simp)
  have e1 := hesc 1001 (by simp)
  have e2 := hesc 1002 (by simp)
  have g1 : (((l.length + 1 : Nat) : Int) == 0) = false := by simp; omega
  have g2 : (0 : Int) < ((l.length + 1 : Nat) : Int) := by omega
  repeat (first | refine aops_op' rfl (by simp only [go_sem, AG, e0, e1, e2, dueC, g1, g2]; exact ⟨rfl, rfl⟩) ?_ | refine g_run ?_ | refine g_off ?_ | refine aops_nil (d_end ?_) | refine aops_nil ?_ | refine awp_seq ?_ | refine g_text ?_ | refine g_draw Tryd.mixed ?_ | refine awp_block ?_ | refine awp_skip ?_ | (refine awp_exit ?_; simp only [thenA, blockA, ↓reduceIte, Nat.reduceEqDiff, reduceCtorEq]) | refine awp_yes' (by simp only [go_sem, AG, e0, e1, e2, dueC, g1, g2]; exact Is.rfl') ?_ | refine awp_no' (by simp only [go_sem, AG, e0, e1, e2, dueC, g1, g2]; exact Is.rfl') ?_)
  refine aops_inl [(1000, 1000), (1001, 1001), (1002, 1002)] rfl (f1) (by decide) (by decide) (by simp only [go_sem, AG, e0, e1, e2, dueC, g1, g2] <;> rfl) (by simp only [go_sem, AG, e0, e1, e2, dueC, g1, g2, and_self] <;> trivial) (by simp only [go_sem, AG, e0, e1, e2, dueC, g1, g2, and_self] <;> trivial) (by intro o; simp only [go_sem, AG, e0, e1, e2, dueC, g1, g2, behind, and_self] <;> trivial) (by intro o; simp only [go_sem, AG, e0, e1, e2, dueC, g1, g2] <;> rfl) (by simp only [go_sem, AG, e0, e1, e2, dueC, g1, g2, behind]; exact Is.rfl') (by simp only [go_sem, AG, e0, e1, e2, dueC, g1, g2, behind]; exact Is.rfl') ?_
  repeat (first | refine aops_op' rfl (by simp only [go_sem, AG, e0, e1, e2, dueC, g1, g2]; exact ⟨rfl, rfl⟩) ?_ | refine g_run ?_ | refine g_off ?_ | refine aops_nil (d_end ?_) | refine aops_nil ?_ | refine awp_seq ?_ | refine g_text ?_ | refine g_draw Tryd.mixed ?_ | refine awp_block ?_ | refine awp_skip ?_ | (refine awp_exit ?_; simp only [thenA, blockA, ↓reduceIte, Nat.reduceEqDiff, reduceCtorEq]) | refine awp_yes' (by simp only [go_sem, AG, e0, e1, e2, dueC, g1, g2]; exact Is.rfl') ?_ | refine awp_no' (by simp only [go_sem, AG, e0, e1, e2, dueC, g1, g2]; exact Is.rfl') ?_)
  (refine awp_ret ?_; (try simp only [thenA, blockA, ↓reduceIte, Nat.reduceEqDiff, reduceCtorEq]); refine retI_of ?_ ?_ <;> simp only [go_sem, AG, e0, e1, e2, dueC, g1, g2, implies_true, and_self, imp_self, false_implies, AV.tuple.injEq, exists_eq_left', ne_eq])
theorem tput_new (ad : Nat → Addr) (mo : More) (d : Due) (l : List Due) (M : Mp) (hd : rightD d = true) (hn : d.name.length ≤ 9223372036854775807) (hm : idxM (d.inst, d.name) M 0 = none) (hl : l.length < 1024) :
    ConI Tryd.prog (errEnv ad mo) 10 [1000, 1001, 1002] (fun k => k == 1001) (fun g => [.loc 1000 (g 1000) 0 0, .agg (dueC d)]) (fun g => AG g l M) (fun g => AG g (upS (l ++ [d]) (M ++ [((d.inst, d.name), (l.length : Int))]) l.length).1 (upS (l ++ [d]) (M ++ [((d.inst, d.name), (l.length : Int))]) l.length).2) (fun _ => .tuple [B true, nilE]) := by
  have f1 := tcheck_con ad mo d hn
  rw [hd] at f1
  simp only [if_true] at f1
  have f2 := tkey_con (errEnv ad mo) d
  have f3 := up_con (errEnv ad mo) l.length (l ++ [d]) (M ++ [((d.inst, d.name), (l.length : Int))]) (by simp) (by simp; omega)
  refine ⟨Tryd.call10, _, _, Tryd.func10, rfl, (by intro _; rw [Tryd.ntmps10]; simp), ?_⟩
  intro vs esc hesc
  rw [Tryd.ntmps10, Tryd.results10]
  have e0 := hesc 1000 (by simp)
  have e1 := hesc 1001 (by simp)
  have e2 := hesc 1002 (by simp)
  have h1 := mfind_M (d.inst, d.name) M 0
  rw [hm] at h1
  simp only at h1
  have h2 : M.map encM ++ [encM ((d.inst, d.name), (l.length : Int))] = (M ++ [((d.inst, d.name), (l.length : Int))]).map encM := by simp
  simp only [encM] at h2
  have h3 : l.map dueC ++ [dueC d] = (l ++ [d]).map dueC := by simp
  simp only [dueC] at h3
  have g1 : ¬ (1024 : Int) ≤ (l.length : Int) := by omega
  have g2 : Fits (l.length + 1) 32 := fits_small (by omega) (by omega)
  have g3 : (l ++ [d]).length = l.length + 1 := by simp
  have g4 : IntKind.i64.wrap (((l.length + 1 : Nat) : Int) - 1) = (l.length : Int) := by rw [wrap_in (by omega) (by omega)]; omega
  repeat (first | refine aops_op' rfl (by simp only [go_sem, AG, dueC, keyC, e0, e1, e2, h1, h2, h3, g1, g2, g3, g4]; exact ⟨rfl, rfl⟩) ?_ | refine g_run ?_ | refine g_off ?_ | refine aops_call' rfl (f1) (by simp only [go_sem, AG, dueC, keyC, e0, e1, e2, h1, h2, h3, g1, g2, g3, g4]; exact Is.rfl') (by simp only [go_sem, AG, dueC, keyC, e0, e1, e2, h1, h2, h3, g1, g2, g3, g4]; exact ⟨rfl, rfl⟩) ?_ | refine aops_call' rfl (f2) (by simp only [go_sem, AG, dueC, keyC, e0, e1, e2, h1, h2, h3, g1, g2, g3, g4]; exact Is.rfl') (by simp only [go_sem, AG, dueC, keyC, e0, e1, e2, h1, h2, h3, g1, g2, g3, g4]; exact ⟨rfl, rfl⟩) ?_ | refine aops_nil (d_end ?_) | refine aops_nil ?_ | refine awp_seq ?_ | refine g_text ?_ | refine g_draw Tryd.mixed ?_ | refine awp_block ?_ | refine awp_skip ?_ | (refine awp_exit ?_; simp only [thenA, blockA, ↓reduceIte, Nat.reduceEqDiff, reduceCtorEq]) | refine awp_yes' (by simp only [go_sem, AG, dueC, keyC, e0, e1, e2, h1, h2, h3, g1, g2, g3, g4]; exact Is.rfl') ?_ | refine awp_no' (by simp only [go_sem, AG, dueC, keyC, e0, e1, e2, h1, h2, h3, g1, g2, g3, g4]; exact Is.rfl') ?_)
  refine aops_inl [(1000, 1000), (1001, 1001), (1002, 1002)] rfl (f3) (by decide) (by decide) (by simp only [go_sem, AG, dueC, keyC, e0, e1, e2, h1, h2, h3, g1, g2, g3, g4] <;> rfl) (by simp only [go_sem, AG, dueC, keyC, e0, e1, e2, h1, h2, h3, g1, g2, g3, g4, and_self] <;> trivial) (by simp only [go_sem, AG, dueC, keyC, e0, e1, e2, h1, h2, h3, g1, g2, g3, g4, and_self] <;> trivial) (by intro o; simp only [go_sem, AG, dueC, keyC, e0, e1, e2, h1, h2, h3, g1, g2, g3, g4, behind, and_self] <;> trivial) (by intro o; simp only [go_sem, AG, dueC, keyC, e0, e1, e2, h1, h2, h3, g1, g2, g3, g4] <;> rfl) (by simp only [go_sem, AG, dueC, keyC, e0, e1, e2, h1, h2, h3, g1, g2, g3, g4, behind]; exact Is.rfl') (by simp only [go_sem, AG, dueC, keyC, e0, e1, e2, h1, h2, h3, g1, g2, g3, g4, behind]; exact Is.rfl') ?_
  repeat (first | refine aops_op' rfl (by simp only [go_sem, AG, dueC, keyC, e0, e1, e2, h1, h2, h3, g1, g2, g3, g4]; exact ⟨rfl, rfl⟩) ?_ | refine g_run ?_ | refine g_off ?_ | refine aops_nil (d_end ?_) | refine aops_nil ?_ | refine awp_seq ?_ | refine g_text ?_ | refine g_draw Tryd.mixed ?_ | refine awp_block ?_ | refine awp_skip ?_ | (refine awp_exit ?_; simp only [thenA, blockA, ↓reduceIte, Nat.reduceEqDiff, reduceCtorEq]) | refine awp_yes' (by simp only [go_sem, AG, dueC, keyC, e0, e1, e2, h1, h2, h3, g1, g2, g3, g4]; exact Is.rfl') ?_ | refine awp_no' (by simp only [go_sem, AG, dueC, keyC, e0, e1, e2, h1, h2, h3, g1, g2, g3, g4]; exact Is.rfl') ?_)
  (refine awp_ret ?_; (try simp only [thenA, blockA, ↓reduceIte, Nat.reduceEqDiff, reduceCtorEq]); refine retI_of ?_ ?_ <;> simp only [go_sem, AG, dueC, keyC, e0, e1, e2, h1, h2, h3, g1, g2, g3, g4, implies_true, and_self, imp_self, false_implies, AV.tuple.injEq, exists_eq_left', ne_eq])
end Go.Proofs.YthepkabfiooabaaDoor
