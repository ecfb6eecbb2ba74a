/- An agenda as rows: its heap, its map; set. -/
import Derived.Test.YthepkabfiooabaaDoorTA
set_option linter.unusedSimpArgs false
namespace Go.Proofs.YthepkabfiooabaaDoor
open Go.RowKit
set_option maxRecDepth 100000
set_option maxHeartbeats 1000000
attribute [local go_sem_proc ↓] reduceIte
attribute [local go_sem_proc] reduceCtorEq Nat.reduceBEq Nat.reduceAdd Nat.reduceSub Nat.reduceEqDiff Nat.reduceLT Nat.reduceLeDiff Nat.reduceMul Int.reduceToNat Int.reduceBEq Int.reduceBNe Int.reduceEq Int.reduceLT Int.reduceLE
attribute [local go_sem] ev_clear ev_makeFunc funcRd evClear List.isEmpty_cons Array.isEmpty_iff ev_makeMap ev_lookup ev_mapUpdate ev_delete evMakeMap evLookup evMapUpdate evDelete pureOf keyCmp mfind oneCells Rd.map AV.bare AV.bare.bareL AV.ofVal resRd resOne resAll HoldF HoldR Takes thenA blockA ev_move ev_assign ev_pick ev_alloc ev_box ev_build ev_buildSlice ev_load ev_store ev_binOp ev_unOp ev_convert ev_iface ev_make ev_slice ev_fieldAddr ev_field ev_indexAddr ev_index ev_extract ev_len ev_append ev_min ev_max evMin evMax gt_tmp gt_int gt_bool gt_str gt_nilS gt_nilP gt_nilI pickRd allocRd buildRd sliceRd loadRd unRd ifaceRd exRd val optRd callRd seen AV.plain adopt fzArgs Rd.run AV.asCells newBox runL Comes' Rd.row Rd.bind Out.app apps Eff.app St.renew St.setRow St.show St.put St.init upd evStore evBinR evBin eqFs eqCell evConv evSeq evLen evIndexAddr evFieldAddr evField evIndex bound evSlice evSliceF evAppend evMake loadOf fillAV fillEs fzParts fz fzCell fzCells shows isConstOp splice wrs wes Value.oneCell' List.getD_cons_zero List.getD_cons_succ List.getD_nil List.length_cons List.length_nil List.map_cons List.map_nil List.nil_append List.cons_append List.all_cons List.all_nil List.getElem?_cons_zero List.getElem?_cons_succ List.set_cons_zero List.set_cons_succ List.take_succ_cons List.take_zero List.drop_succ_cons List.drop_zero List.take_nil List.drop_nil List.replicate_succ List.replicate_zero Bool.and_true Bool.true_and Bool.and_self and_self true_and and_true Nat.zero_add Nat.add_zero Option.some.injEq Nat.zero_lt_succ Bool.not_true Bool.not_false ne_eq not_true_eq_false not_false_eq_true Option.map_some Option.map_none List.toList_toArray head headF headR List.length_map Int.toNat_natCast Int.natCast_nonneg List.getElem?_map decide_true decide_false Bool.false_eq_true if_true if_false Bool.or_self Bool.or_true Bool.true_or Bool.false_or Bool.or_false Bool.and_false Bool.false_and List.flatten_cons List.flatten_nil List.append_nil nat0 or_self or_false false_or or_true true_or and_false false_and List.length_append List.isEmpty_nil bne_self_eq_false beq_self_eq_true fits_small strL_l bytesOf_map wants Int.cast_ofNat_Int gt_iff_lt ge_iff_le
attribute [local go_sem ←] List.map_drop List.map_take
attribute [local go_sem] nilRd ev_nilCheck tmpsAre resI resIs cellRd HoldI toRL toKL gin gout nout vin grownR lay AV.ren AV.ren.renL Row.ren headR Option.bind_some Option.bind_none Option.isSome_some Option.isSome_none Option.getD_some Bool.true_eq_false PreOk PostOk EscOk wrs wes List.cons.injEq Prod.mk.injEq forall_const

abbrev Wh := Int × List UInt8
abbrev Mp := List (Wh × Int)
def encM (p : Wh × Int) : List AV := [.agg [I p.1.1, Sg p.1.2], I p.2]
def idxM (k : Wh) : Mp → Nat → Option Nat
  | [], _ => none
  | p :: M, i => if k = p.1 then some i else idxM k M (i + 1)
theorem mfind_M (k : Wh) : ∀ (M : Mp) (i : Nat), mfind Tryd.prog 66 (.agg [I k.1, Sg k.2]) (M.map encM) i = some (idxM k M i)
  | [], i => rfl
  | ((n, s), v) :: M, i => by
    have ih := mfind_M k M (i + 1)
    obtain ⟨kn, ks⟩ := k
    by_cases h : kn = n ∧ ks = s
    · obtain ⟨rfl, rfl⟩ := h
      have e1 : (kn == kn) = true := by simp
      have e2 : (ks == ks) = true := by simp
      simp only [go_sem, encM, eqFs, eqCell, e1, e2, idxM]
    · have e1 : (kn == n && (ks == s)) = false := by
        rw [Bool.eq_false_iff]
        intro e
        simp only [Bool.and_eq_true, beq_iff_eq] at e
        exact h e
      have e2 : ¬ ((kn, ks) : Wh) = (n, s) := fun e => h (by simpa using e)
      simp only at ih
      simp only [go_sem, encM, eqFs, eqCell, e1, idxM, e2, ih]
def putM (M : Mp) (k : Wh) (v : Int) : Mp := match idxM k M 0 with
  | some j => M.set j (k, v)
  | none => M ++ [(k, v)]
/-- An agenda's three rows: its block, its heap, its map. -/
def AG (g : Nat → Nat) (l : List Due) (M : Mp) : List (Nat × Row) := [(1000, ⟨2, [[.row 1001 (g 1001), .mp 1002 (g 1002)]], 61, false⟩), (1001, ⟨3, l.map dueC, 32, true⟩), (1002, ⟨0, M.map encM, 59, true⟩)]
theorem set_con (env : Env) (d : Due) (i : Nat) (l : List Due) (M : Mp) (hi : i < l.length) : ConI Tryd.prog env 30 [1000, 1001, 1002] (fun _ => false) (fun g => [.loc 1000 (g 1000) 0 0, I i, .agg (dueC d)]) (fun g => AG g l M) (fun g => AG g (l.set i d) (putM M (d.inst, d.name) i)) (fun _ => .lit (.tuple #[])) := by
  have f1 := tkey_con env d
  refine ⟨Tryd.call30, _, _, Tryd.func30, rfl, (by intro _; rw [Tryd.ntmps30]; simp), ?_⟩
  intro vs esc hesc
  rw [Tryd.ntmps30, Tryd.results30]
  have e0 := hesc 1000 (by simp)
  have e1 := hesc 1001 (by simp)
  have e2 := hesc 1002 (by simp)
  have g1 := nlt hi
  obtain ⟨d0, hx⟩ : ∃ x, l[i]? = some x := ⟨l[i], List.getElem?_eq_getElem hi⟩
  have hs : (l.map dueC).set i (dueC d) = (l.set i d).map dueC := by rw [List.map_set]
  simp only [dueC] at hs
  cases hm : idxM (d.inst, d.name) M 0 with
  | none =>
    have h1 := mfind_M (d.inst, d.name) M 0
    rw [hm] at h1
    have h2 : M.map encM ++ [encM ((d.inst, d.name), (i : Int))] = (putM M (d.inst, d.name) i).map encM := by simp [putM, hm]
    simp only [encM] at h2
    simp only at h1
    repeat (first | refine aops_op' rfl (by simp only [go_sem, AG, dueC, keyC, e0, e1, e2, g1, hx, hs, h1, h2]; exact ⟨rfl, rfl⟩) ?_ | refine g_run ?_ | refine g_off ?_ | refine aops_call' rfl (f1) (by simp only [go_sem, AG, dueC, keyC, e0, e1, e2, g1, hx, hs, h1, h2]; exact Is.rfl') (by simp only [go_sem, AG, dueC, keyC, e0, e1, e2, g1, hx, hs, h1, h2]; exact ⟨rfl, rfl⟩) ?_ | refine aops_nil (d_end ?_) | refine aops_nil ?_ | refine awp_seq ?_ | refine g_text ?_ | refine g_draw Tryd.mixed ?_ | refine awp_block ?_ | refine awp_skip ?_ | (refine awp_exit ?_; simp only [thenA, blockA, ↓reduceIte, Nat.reduceEqDiff, reduceCtorEq]) | refine awp_yes' (by simp only [go_sem, AG, dueC, keyC, e0, e1, e2, g1, hx, hs, h1, h2]; exact Is.rfl') ?_ | refine awp_no' (by simp only [go_sem, AG, dueC, keyC, e0, e1, e2, g1, hx, hs, h1, h2]; exact Is.rfl') ?_)
    (refine retI_end ?_ ?_ <;> simp only [go_sem, AG, dueC, keyC, e0, e1, e2, g1, hx, hs, h1, h2, implies_true, and_self, imp_self, false_implies, AV.tuple.injEq, exists_eq_left', ne_eq])
  | some j =>
    have h1 := mfind_M (d.inst, d.name) M 0
    rw [hm] at h1
    have h2 : (M.map encM).set j (encM ((d.inst, d.name), (i : Int))) = (putM M (d.inst, d.name) i).map encM := by simp [putM, hm, List.map_set]
    simp only [encM] at h2
    simp only at h1
    repeat (first | refine aops_op' rfl (by simp only [go_sem, AG, dueC, keyC, e0, e1, e2, g1, hx, hs, h1, h2]; exact ⟨rfl, rfl⟩) ?_ | refine g_run ?_ | refine g_off ?_ | refine aops_call' rfl (f1) (by simp only [go_sem, AG, dueC, keyC, e0, e1, e2, g1, hx, hs, h1, h2]; exact Is.rfl') (by simp only [go_sem, AG, dueC, keyC, e0, e1, e2, g1, hx, hs, h1, h2]; exact ⟨rfl, rfl⟩) ?_ | refine aops_nil (d_end ?_) | refine aops_nil ?_ | refine awp_seq ?_ | refine g_text ?_ | refine g_draw Tryd.mixed ?_ | refine awp_block ?_ | refine awp_skip ?_ | (refine awp_exit ?_; simp only [thenA, blockA, ↓reduceIte, Nat.reduceEqDiff, reduceCtorEq]) | refine awp_yes' (by simp only [go_sem, AG, dueC, keyC, e0, e1, e2, g1, hx, hs, h1, h2]; exact Is.rfl') ?_ | refine awp_no' (by simp only [go_sem, AG, dueC, keyC, e0, e1, e2, g1, hx, hs, h1, h2]; exact Is.rfl') ?_)
    (refine retI_end ?_ ?_ <;> simp only [go_sem, AG, dueC, keyC, e0, e1, e2, g1, hx, hs, h1, h2, implies_true, and_self, imp_self, false_implies, AV.tuple.injEq, exists_eq_left', ne_eq])

def keyD (d : Due) : Wh := (d.inst, d.name)
def swapL (l : List Due) (i k : Nat) (x y : Due) : List Due := (l.set i y).set k x
def swapM (M : Mp) (i k : Nat) (x y : Due) : Mp := putM (putM M (y.inst, y.name) i) (x.inst, x.name) k
theorem swap_con (env : Env) (i k : Nat) (x y : Due) (l : List Due) (M : Mp) (hx : l[i]? = some x) (hy : l[k]? = some y) : ConI Tryd.prog env 46 [1000, 1001, 1002] (fun _ => false) (fun g => [.loc 1000 (g 1000) 0 0, I i, I k]) (fun g => AG g l M) (fun g => AG g (swapL l i k x y) (swapM M i k x y)) (fun _ => .lit (.tuple #[])) := by
  have hi : i < l.length := (List.getElem?_eq_some_iff.1 hx).1
  have hk : k < l.length := (List.getElem?_eq_some_iff.1 hy).1
  have f1 := set_con env y i l M hi
  have f2 := set_con env x k (l.set i y) (putM M (y.inst, y.name) i) (by simpa using hk)
  refine ⟨Tryd.call46, _, _, Tryd.func46, rfl, (by intro _; rw [Tryd.ntmps46]; simp), ?_⟩
  intro vs esc hesc
  rw [Tryd.ntmps46, Tryd.results46]
  have e0 := hesc 1000 (by simp)
  have e1 := hesc 1001 (by simp)
  have e2 := hesc 1002 (by simp)
  have g1 := nlt hi
  have g2 := nlt hk
  repeat (first | refine aops_op' rfl (by simp only [go_sem, AG, dueC, e0, e1, e2, g1, g2, hx, hy, swapL, swapM]; exact ⟨rfl, rfl⟩) ?_ | refine g_run ?_ | refine g_off ?_ | refine aops_nil (d_end ?_) | refine aops_nil ?_ | refine awp_seq ?_ | refine g_text ?_ | refine g_draw Tryd.mixed ?_ | refine awp_block ?_ | refine awp_skip ?_ | (refine awp_exit ?_; simp only [thenA, blockA, ↓reduceIte, Nat.reduceEqDiff, reduceCtorEq]) | refine awp_yes' (by simp only [go_sem, AG, dueC, e0, e1, e2, g1, g2, hx, hy, swapL, swapM]; exact Is.rfl') ?_ | refine awp_no' (by simp only [go_sem, AG, dueC, e0, e1, e2, g1, g2, hx, hy, swapL, swapM]; exact Is.rfl') ?_)
  refine aops_inl [(1000, 1000), (1001, 1001), (1002, 1002)] rfl (f1) (by decide) (by decide) (by simp only [go_sem, AG, dueC, e0, e1, e2, g1, g2, hx, hy, swapL, swapM] <;> rfl) (by simp only [go_sem, AG, dueC, e0, e1, e2, g1, g2, hx, hy, swapL, swapM, and_self] <;> trivial) (by simp only [go_sem, AG, dueC, e0, e1, e2, g1, g2, hx, hy, swapL, swapM, and_self] <;> trivial) (by intro o; simp only [go_sem, AG, dueC, e0, e1, e2, g1, g2, hx, hy, swapL, swapM, behind, and_self] <;> trivial) (by intro o; simp only [go_sem, AG, dueC, e0, e1, e2, g1, g2, hx, hy, swapL, swapM] <;> rfl) (by simp only [go_sem, AG, dueC, e0, e1, e2, g1, g2, hx, hy, swapL, swapM, behind]; exact Is.rfl') (by simp only [go_sem, AG, dueC, e0, e1, e2, g1, g2, hx, hy, swapL, swapM, behind]; exact Is.rfl') ?_
  repeat (first | refine aops_op' rfl (by simp only [go_sem, AG, dueC, e0, e1, e2, g1, g2, hx, hy, swapL, swapM]; exact ⟨rfl, rfl⟩) ?_ | refine g_run ?_ | refine g_off ?_ | refine aops_nil (d_end ?_) | refine aops_nil ?_ | refine awp_seq ?_ | refine g_text ?_ | refine g_draw Tryd.mixed ?_ | refine awp_block ?_ | refine awp_skip ?_ | (refine awp_exit ?_; simp only [thenA, blockA, ↓reduceIte, Nat.reduceEqDiff, reduceCtorEq]) | refine awp_yes' (by simp only [go_sem, AG, dueC, e0, e1, e2, g1, g2, hx, hy, swapL, swapM]; exact Is.rfl') ?_ | refine awp_no' (by simp only [go_sem, AG, dueC, e0, e1, e2, g1, g2, hx, hy, swapL, swapM]; exact Is.rfl') ?_)
  refine aops_inl [(1000, 1000), (1001, 1001), (1002, 1002)] rfl (f2) (by decide) (by decide) (by simp only [go_sem, AG, dueC, e0, e1, e2, g1, g2, hx, hy, swapL, swapM] <;> rfl) (by simp only [go_sem, AG, dueC, e0, e1, e2, g1, g2, hx, hy, swapL, swapM, and_self] <;> trivial) (by simp only [go_sem, AG, dueC, e0, e1, e2, g1, g2, hx, hy, swapL, swapM, and_self] <;> trivial) (by intro o; simp only [go_sem, AG, dueC, e0, e1, e2, g1, g2, hx, hy, swapL, swapM, behind, and_self] <;> trivial) (by intro o; simp only [go_sem, AG, dueC, e0, e1, e2, g1, g2, hx, hy, swapL, swapM] <;> rfl) (by simp only [go_sem, AG, dueC, e0, e1, e2, g1, g2, hx, hy, swapL, swapM, behind]; exact Is.rfl') (by simp only [go_sem, AG, dueC, e0, e1, e2, g1, g2, hx, hy, swapL, swapM, behind]; exact Is.rfl') ?_
  repeat (first | refine aops_op' rfl (by simp only [go_sem, AG, dueC, e0, e1, e2, g1, g2, hx, hy, swapL, swapM]; exact ⟨rfl, rfl⟩) ?_ | refine g_run ?_ | refine g_off ?_ | refine aops_nil (d_end ?_) | refine aops_nil ?_ | refine awp_seq ?_ | refine g_text ?_ | refine g_draw Tryd.mixed ?_ | refine awp_block ?_ | refine awp_skip ?_ | (refine awp_exit ?_; simp only [thenA, blockA, ↓reduceIte, Nat.reduceEqDiff, reduceCtorEq]) | refine awp_yes' (by simp only [go_sem, AG, dueC, e0, e1, e2, g1, g2, hx, hy, swapL, swapM]; exact Is.rfl') ?_ | refine awp_no' (by simp only [go_sem, AG, dueC, e0, e1, e2, g1, g2, hx, hy, swapL, swapM]; exact Is.rfl') ?_)
  (refine retI_end ?_ ?_ <;> simp only [go_sem, AG, dueC, e0, e1, e2, g1, g2, hx, hy, swapL, swapM, implies_true, and_self, imp_self, false_implies, AV.tuple.injEq, exists_eq_left', ne_eq])
end Go.Proofs.YthepkabfiooabaaDoor
