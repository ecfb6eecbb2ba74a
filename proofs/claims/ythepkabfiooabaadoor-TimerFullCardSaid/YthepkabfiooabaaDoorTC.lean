/- An agenda as rows: up. -/
import Derived.Test.YthepkabfiooabaaDoorTB
set_option linter.unusedSimpArgs false
namespace Go.Proofs.YthepkabfiooabaaDoor
open Go.RowKit
set_option maxRecDepth 100000
set_option maxHeartbeats 1000000
attribute [local go_sem_proc ↓] reduceIte
attribute [local go_sem_proc] reduceCtorEq Nat.reduceBEq Nat.reduceAdd Nat.reduceSub Nat.reduceEqDiff Nat.reduceLT Nat.reduceLeDiff Nat.reduceMul Int.reduceToNat Int.reduceBEq Int.reduceBNe Int.reduceEq Int.reduceLT Int.reduceLE
attribute [local go_sem] ev_clear ev_makeFunc funcRd evClear List.isEmpty_cons Array.isEmpty_iff ev_makeMap ev_lookup ev_mapUpdate ev_delete evMakeMap evLookup evMapUpdate evDelete pureOf keyCmp mfind oneCells Rd.map AV.bare AV.bare.bareL AV.ofVal resRd resOne resAll HoldF HoldR Takes thenA blockA ev_move ev_assign ev_pick ev_alloc ev_box ev_build ev_buildSlice ev_load ev_store ev_binOp ev_unOp ev_convert ev_iface ev_make ev_slice ev_fieldAddr ev_field ev_indexAddr ev_index ev_extract ev_len ev_append ev_min ev_max evMin evMax gt_tmp gt_int gt_bool gt_str gt_nilS gt_nilP gt_nilI pickRd allocRd buildRd sliceRd loadRd unRd ifaceRd exRd val optRd callRd seen AV.plain adopt fzArgs Rd.run AV.asCells newBox runL Comes' Rd.row Rd.bind Out.app apps Eff.app St.renew St.setRow St.show St.put St.init upd evStore evBinR evBin eqFs eqCell evConv evSeq evLen evIndexAddr evFieldAddr evField evIndex bound evSlice evSliceF evAppend evMake loadOf fillAV fillEs fzParts fz fzCell fzCells shows isConstOp splice wrs wes Value.oneCell' List.getD_cons_zero List.getD_cons_succ List.getD_nil List.length_cons List.length_nil List.map_cons List.map_nil List.nil_append List.cons_append List.all_cons List.all_nil List.getElem?_cons_zero List.getElem?_cons_succ List.set_cons_zero List.set_cons_succ List.take_succ_cons List.take_zero List.drop_succ_cons List.drop_zero List.take_nil List.drop_nil List.replicate_succ List.replicate_zero Bool.and_true Bool.true_and Bool.and_self and_self true_and and_true Nat.zero_add Nat.add_zero Option.some.injEq Nat.zero_lt_succ Bool.not_true Bool.not_false ne_eq not_true_eq_false not_false_eq_true Option.map_some Option.map_none List.toList_toArray head headF headR List.length_map Int.toNat_natCast Int.natCast_nonneg List.getElem?_map decide_true decide_false Bool.false_eq_true if_true if_false Bool.or_self Bool.or_true Bool.true_or Bool.false_or Bool.or_false Bool.and_false Bool.false_and List.flatten_cons List.flatten_nil List.append_nil nat0 or_self or_false false_or or_true true_or and_false false_and List.length_append List.isEmpty_nil bne_self_eq_false beq_self_eq_true fits_small strL_l bytesOf_map wants Int.cast_ofNat_Int gt_iff_lt ge_iff_le
attribute [local go_sem ←] List.map_drop List.map_take
attribute [local go_sem] nilRd ev_nilCheck tmpsAre resI resIs cellRd HoldI toRL toKL gin gout nout vin grownR lay AV.ren AV.ren.renL Row.ren headR Option.bind_some Option.bind_none Option.isSome_some Option.isSome_none Option.getD_some Bool.true_eq_false PreOk PostOk EscOk wrs wes List.cons.injEq Prod.mk.injEq forall_const

theorem half_lt {i : Nat} (h : 0 < i) : (i - 1) / 2 < i := by omega
/-- A due goes up. -/
def upS (l : List Due) (M : Mp) (i : Nat) : List Due × Mp :=
  if _h : 0 < i then match l[i]?, l[(i - 1) / 2]? with
    | some x, some y => if dueLess x y then upS (swapL l i ((i - 1) / 2) x y) (swapM M i ((i - 1) / 2) x y) ((i - 1) / 2) else (l, M)
    | _, _ => (l, M)
  else (l, M)
termination_by i
decreasing_by exact half_lt (by assumption)
theorem upS_zero (l : List Due) (M : Mp) : upS l M 0 = (l, M) := by
  unfold upS
  rw [dif_neg (by omega)]
theorem upS_stay {l : List Due} {M : Mp} {i : Nat} {x y : Due} (hi : 0 < i) (hx : l[i]? = some x) (hy : l[(i - 1) / 2]? = some y) (h : dueLess x y = false) : upS l M i = (l, M) := by
  unfold upS
  rw [dif_pos hi, hx, hy]
  simp only [h, Bool.false_eq_true, if_false]
theorem upS_go {l : List Due} {M : Mp} {i : Nat} {x y : Due} (hi : 0 < i) (hx : l[i]? = some x) (hy : l[(i - 1) / 2]? = some y) (h : dueLess x y = true) : upS l M i = upS (swapL l i ((i - 1) / 2) x y) (swapM M i ((i - 1) / 2) x y) ((i - 1) / 2) := by
  conv => lhs; unfold upS
  rw [dif_pos hi, hx, hy]
  simp only [h, if_true]
theorem swapL_len (l : List Due) (i k : Nat) (x y : Due) : (swapL l i k x y).length = l.length := by simp [swapL]
theorem up_con (env : Env) (i : Nat) (l : List Due) (M : Mp) (hi : i < l.length) (hl : l.length ≤ 4096) : ConI Tryd.prog env 31 [1000, 1001, 1002] (fun _ => false) (fun g => [.loc 1000 (g 1000) 0 0, I i]) (fun g => AG g l M) (fun g => AG g (upS l M i).1 (upS l M i).2) (fun _ => .lit (.tuple #[])) := by
  refine ⟨Tryd.call31, _, _, Tryd.func31, rfl, (by intro _; rw [Tryd.ntmps31]; simp), ?_⟩
  intro vs esc hesc
  rw [Tryd.ntmps31, Tryd.results31]
  have e0 := hesc 1000 (by simp)
  have e1 := hesc 1001 (by simp)
  have e2 := hesc 1002 (by simp)
  repeat (first | refine aops_op' rfl (by simp only [go_sem, AG, e0, e1, e2]; exact ⟨rfl, rfl⟩) ?_ | refine g_run ?_ | refine g_off ?_ | refine aops_nil (d_end ?_) | refine aops_nil ?_ | refine awp_seq ?_ | refine g_text ?_ | refine g_draw Tryd.mixed ?_ | refine awp_block ?_ | refine awp_skip ?_ | (refine awp_exit ?_; simp only [thenA, blockA, ↓reduceIte, Nat.reduceEqDiff, reduceCtorEq]) | refine awp_yes' (by simp only [go_sem, AG, e0, e1, e2]; exact Is.rfl') ?_ | refine awp_no' (by simp only [go_sem, AG, e0, e1, e2]; exact Is.rfl') ?_)
  refine awp_loopH (D := List Due × Mp × Nat) (fun d vs' => [(0, .loc 1000 (vs' 1000) 0 0), (1, I d.2.2)]) (fun d vs' => AG vs' d.1 d.2.1) (fun d vs' esc' => (d.2.2 < d.1.length ∧ d.1.length ≤ 4096 ∧ upS l M i = upS d.1 d.2.1 d.2.2) ∧ (vs' 1000 = vs 1000 ∧ vs' 1001 = vs 1001 ∧ vs' 1002 = vs 1002) ∧ esc' 1000 = false ∧ esc' 1001 = false ∧ esc' 1002 = false) (fun d => d.2.2) (l, M, i) ?_ ?_ ?_ ?_
  · exact ⟨⟨hi, hl, rfl⟩, ⟨rfl, rfl, rfl⟩, e0, e1, e2⟩
  · (simp only [go_sem, AG, e0, e1, e2])
  · (simp only [go_sem, AG])
  clear e0 e1 e2
  rintro ⟨l', M', j⟩ ws es ⟨⟨hj, hl', hup⟩, ⟨v0, v1, v2⟩, e0, e1, e2⟩
  simp only at hj hl' hup
  by_cases h0 : 0 < j
  · have c0 : (0 : Int) < (j : Int) := by omega
    have c1 : IntKind.i64.wrap ((j : Int) - 1) = ((j - 1 : Nat) : Int) := by rw [wrap_in (by omega) (by omega)]; omega
    have c2 : IntKind.i64.wrap (((j - 1 : Nat) : Int).tdiv 2) = (((j - 1) / 2 : Nat) : Int) := by rw [show ((j - 1 : Nat) : Int).tdiv 2 = (((j - 1) / 2 : Nat) : Int) from rfl, wrap_in (by omega) (by omega)]
    obtain ⟨x, hx⟩ : ∃ x, l'[j]? = some x := ⟨l'[j], List.getElem?_eq_getElem hj⟩
    obtain ⟨y, hy⟩ : ∃ y, l'[(j - 1) / 2]? = some y := ⟨l'[(j - 1) / 2]'(by omega), List.getElem?_eq_getElem (by omega)⟩
    have g1 := nlt hj
    have g2 : (((j - 1) / 2 : Nat) : Int) < (l'.length : Int) := by omega
    have f1 := less_con env x y
    cases hd : dueLess x y with
    | false =>
      rw [hup, upS_stay h0 hx hy hd]
      repeat (first | refine aops_op' rfl (by simp only [go_sem, AG, e0, e1, e2, c0, c1, c2, hx, hy, g1, g2, hd, v0, v1, v2]; exact ⟨rfl, rfl⟩) ?_ | refine g_run ?_ | refine g_off ?_ | refine aops_call' rfl (f1) (by simp only [go_sem, AG, e0, e1, e2, c0, c1, c2, hx, hy, g1, g2, hd, v0, v1, v2]; exact Is.rfl') (by simp only [go_sem, AG, e0, e1, e2, c0, c1, c2, hx, hy, g1, g2, hd, v0, v1, v2]; exact ⟨rfl, rfl⟩) ?_ | refine aops_nil (d_end ?_) | refine aops_nil ?_ | refine awp_seq ?_ | refine g_text ?_ | refine g_draw Tryd.mixed ?_ | refine awp_block ?_ | refine awp_skip ?_ | (refine awp_exit ?_; simp only [thenA, blockA, ↓reduceIte, Nat.reduceEqDiff, reduceCtorEq]) | refine awp_yes' (by simp only [go_sem, AG, e0, e1, e2, c0, c1, c2, hx, hy, g1, g2, hd, v0, v1, v2]; exact Is.rfl') ?_ | refine awp_no' (by simp only [go_sem, AG, e0, e1, e2, c0, c1, c2, hx, hy, g1, g2, hd, v0, v1, v2]; exact Is.rfl') ?_)
      (refine retI_end ?_ ?_ <;> simp only [go_sem, AG, e0, e1, e2, c0, c1, c2, hx, hy, g1, g2, hd, v0, v1, v2, implies_true, and_self, imp_self, false_implies, AV.tuple.injEq, exists_eq_left', ne_eq])
    | true =>
      have f2 := swap_con env j ((j - 1) / 2) x y l' M' hx hy
      repeat (first | refine aops_op' rfl (by simp only [go_sem, AG, e0, e1, e2, c0, c1, c2, hx, hy, g1, g2, hd]; exact ⟨rfl, rfl⟩) ?_ | refine g_run ?_ | refine g_off ?_ | refine aops_call' rfl (f1) (by simp only [go_sem, AG, e0, e1, e2, c0, c1, c2, hx, hy, g1, g2, hd]; exact Is.rfl') (by simp only [go_sem, AG, e0, e1, e2, c0, c1, c2, hx, hy, g1, g2, hd]; exact ⟨rfl, rfl⟩) ?_ | refine aops_nil (d_end ?_) | refine aops_nil ?_ | refine awp_seq ?_ | refine g_text ?_ | refine g_draw Tryd.mixed ?_ | refine awp_block ?_ | refine awp_skip ?_ | (refine awp_exit ?_; simp only [thenA, blockA, ↓reduceIte, Nat.reduceEqDiff, reduceCtorEq]) | refine awp_yes' (by simp only [go_sem, AG, e0, e1, e2, c0, c1, c2, hx, hy, g1, g2, hd]; exact Is.rfl') ?_ | refine awp_no' (by simp only [go_sem, AG, e0, e1, e2, c0, c1, c2, hx, hy, g1, g2, hd]; exact Is.rfl') ?_)
      refine aops_inl [(1000, 1000), (1001, 1001), (1002, 1002)] rfl (f2) (by decide) (by decide) (by simp only [go_sem, AG, e0, e1, e2, c0, c1, c2, hx, hy, g1, g2, hd] <;> rfl) (by simp only [go_sem, AG, e0, e1, e2, c0, c1, c2, hx, hy, g1, g2, hd, and_self] <;> trivial) (by simp only [go_sem, AG, e0, e1, e2, c0, c1, c2, hx, hy, g1, g2, hd, and_self] <;> trivial) (by intro o; simp only [go_sem, AG, e0, e1, e2, c0, c1, c2, hx, hy, g1, g2, hd, behind, and_self] <;> trivial) (by intro o; simp only [go_sem, AG, e0, e1, e2, c0, c1, c2, hx, hy, g1, g2, hd] <;> rfl) (by simp only [go_sem, AG, e0, e1, e2, c0, c1, c2, hx, hy, g1, g2, hd, behind]; exact Is.rfl') (by simp only [go_sem, AG, e0, e1, e2, c0, c1, c2, hx, hy, g1, g2, hd, behind]; exact Is.rfl') ?_
      repeat (first | refine aops_op' rfl (by simp only [go_sem, AG, e0, e1, e2, c0, c1, c2, hx, hy, g1, g2, hd]; exact ⟨rfl, rfl⟩) ?_ | refine g_run ?_ | refine g_off ?_ | refine aops_nil (d_end ?_) | refine aops_nil ?_ | refine awp_seq ?_ | refine g_text ?_ | refine g_draw Tryd.mixed ?_ | refine awp_block ?_ | refine awp_skip ?_ | (refine awp_exit ?_; simp only [thenA, blockA, ↓reduceIte, Nat.reduceEqDiff, reduceCtorEq]) | refine awp_yes' (by simp only [go_sem, AG, e0, e1, e2, c0, c1, c2, hx, hy, g1, g2, hd]; exact Is.rfl') ?_ | refine awp_no' (by simp only [go_sem, AG, e0, e1, e2, c0, c1, c2, hx, hy, g1, g2, hd]; exact Is.rfl') ?_)
      refine ⟨(swapL l' j ((j - 1) / 2) x y, swapM M' j ((j - 1) / 2) x y, (j - 1) / 2), ⟨⟨?_, ?_, ?_⟩, ⟨?_, ?_, ?_⟩, ?_, ?_, ?_⟩, ?_, ?_, ?_⟩
      · rw [swapL_len]; show (j - 1) / 2 < l'.length; omega
      · rw [swapL_len]; exact hl'
      · rw [hup, upS_go h0 hx hy hd]
      · simp only [go_sem, v0]
      · simp only [go_sem, v1]
      · simp only [go_sem, v2]
      · simp only [go_sem, e0]
      · simp only [go_sem, e1]
      · simp only [go_sem, e2]
      · (simp only [go_sem, AG, e0, e1, e2, c0, c1, c2, hx, hy, g1, g2, hd])
      · (simp only [go_sem, AG, e0, e1, e2, c0, c1, c2, hx, hy, g1, g2, hd])
      · exact half_lt h0
  · have hj0 : j = 0 := by omega
    subst hj0
    have c0 : ¬ (0 : Int) < 0 := by omega
    rw [hup, upS_zero]
    repeat (first | refine aops_op' rfl (by simp only [go_sem, AG, e0, e1, e2, c0, v0, v1, v2]; exact ⟨rfl, rfl⟩) ?_ | refine g_run ?_ | refine g_off ?_ | refine aops_nil (d_end ?_) | refine aops_nil ?_ | refine awp_seq ?_ | refine g_text ?_ | refine g_draw Tryd.mixed ?_ | refine awp_block ?_ | refine awp_skip ?_ | (refine awp_exit ?_; simp only [thenA, blockA, ↓reduceIte, Nat.reduceEqDiff, reduceCtorEq]) | refine awp_yes' (by simp only [go_sem, AG, e0, e1, e2, c0, v0, v1, v2]; exact Is.rfl') ?_ | refine awp_no' (by simp only [go_sem, AG, e0, e1, e2, c0, v0, v1, v2]; exact Is.rfl') ?_)
    (refine retI_end ?_ ?_ <;> simp only [go_sem, AG, e0, e1, e2, c0, v0, v1, v2, implies_true, and_self, imp_self, false_implies, AV.tuple.injEq, exists_eq_left', ne_eq])
end Go.Proofs.YthepkabfiooabaaDoor
