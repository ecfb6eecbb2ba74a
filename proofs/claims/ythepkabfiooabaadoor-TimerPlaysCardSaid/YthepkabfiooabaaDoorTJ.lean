/- An agenda as rows: Drop, Take, Whole. -/
import Derived.Test.YthepkabfiooabaaDoorTI
set_option linter.unusedSimpArgs false
namespace Go.Proofs.YthepkabfiooabaaDoor
open Go.RowKit
set_option maxRecDepth 100000
set_option maxHeartbeats 4000000
attribute [local go_sem_proc ↓] reduceIte
attribute [local go_sem_proc] reduceCtorEq Nat.reduceBEq Nat.reduceAdd Nat.reduceSub Nat.reduceEqDiff Nat.reduceLT Nat.reduceLeDiff Nat.reduceMul Int.reduceToNat Int.reduceBEq Int.reduceBNe Int.reduceEq Int.reduceLT Int.reduceLE
attribute [local go_sem] ev_clear ev_makeFunc funcRd evClear List.isEmpty_cons Array.isEmpty_iff ev_makeMap ev_lookup ev_mapUpdate ev_delete evMakeMap evLookup evMapUpdate evDelete pureOf keyCmp mfind oneCells Rd.map AV.bare AV.bare.bareL AV.ofVal resRd resOne resAll HoldF HoldR Takes thenA blockA ev_move ev_assign ev_pick ev_alloc ev_box ev_build ev_buildSlice ev_load ev_store ev_binOp ev_unOp ev_convert ev_iface ev_make ev_slice ev_fieldAddr ev_field ev_indexAddr ev_index ev_extract ev_len ev_append ev_min ev_max evMin evMax gt_tmp gt_int gt_bool gt_str gt_nilS gt_nilP gt_nilI pickRd allocRd buildRd sliceRd loadRd unRd ifaceRd exRd val optRd callRd seen AV.plain adopt fzArgs Rd.run AV.asCells newBox runL Comes' Rd.row Rd.bind Out.app apps Eff.app St.renew St.setRow St.show St.put St.init upd evStore evBinR evBin eqFs eqCell evConv evSeq evLen evIndexAddr evFieldAddr evField evIndex bound evSlice evSliceF evAppend evMake loadOf fillAV fillEs fzParts fz fzCell fzCells shows isConstOp splice wrs wes Value.oneCell' List.getD_cons_zero List.getD_cons_succ List.getD_nil List.length_cons List.length_nil List.map_cons List.map_nil List.nil_append List.cons_append List.all_cons List.all_nil List.getElem?_cons_zero List.getElem?_cons_succ List.set_cons_zero List.set_cons_succ List.take_succ_cons List.take_zero List.drop_succ_cons List.drop_zero List.take_nil List.drop_nil List.replicate_succ List.replicate_zero Bool.and_true Bool.true_and Bool.and_self and_self true_and and_true Nat.zero_add Nat.add_zero Option.some.injEq Nat.zero_lt_succ Bool.not_true Bool.not_false ne_eq not_true_eq_false not_false_eq_true Option.map_some Option.map_none List.toList_toArray head headF headR List.length_map Int.toNat_natCast Int.natCast_nonneg List.getElem?_map decide_true decide_false Bool.false_eq_true if_true if_false Bool.or_self Bool.or_true Bool.true_or Bool.false_or Bool.or_false Bool.and_false Bool.false_and List.flatten_cons List.flatten_nil List.append_nil nat0 or_self or_false false_or or_true true_or and_false false_and List.length_append List.isEmpty_nil bne_self_eq_false beq_self_eq_true fits_small strL_l bytesOf_map wants Int.cast_ofNat_Int gt_iff_lt ge_iff_le
attribute [local go_sem ←] List.map_drop List.map_take
attribute [local go_sem] nilRd ev_nilCheck tmpsAre resI resIs cellRd HoldI toRL toKL gin gout nout vin grownR lay AV.ren AV.ren.renL Row.ren headR Option.bind_some Option.bind_none Option.isSome_some Option.isSome_none Option.getD_some Bool.true_eq_false PreOk PostOk EscOk wrs wes List.cons.injEq Prod.mk.injEq forall_const

def dropA (ad : Nat → Addr) (l : List Due) (M : Mp) (k : Wh) : (List Due × Mp) × AV := match lookM k M with
  | some i => (pullR l M i.toNat, nilE)
  | none => ((l, M), errV (-1) (sentV (ad 4)))
theorem tdrop_con (ad : Nat → Addr) (mo : More) (n : Int) (s : List UInt8) (l : List Due) (M : Mp) (h : AgOk l M) (hl : l.length ≤ 4096) :
    ConI Tryd.prog (errEnv ad mo) 23 [1000, 1001, 1002] (fun k => k == 1001) (fun g => [.loc 1000 (g 1000) 0 0, I n, Sg s]) (fun g => AG g l M) (fun g => AG g (dropA ad l M (n, s)).1.1 (dropA ad l M (n, s)).1.2) (fun _ => (dropA ad l M (n, s)).2) := by
  have h1 := mfind_M (n, s) M 0
  unfold dropA
  cases hk : lookM (n, s) M with
  | some v =>
    obtain ⟨d0, i, h0, hkd, rfl⟩ := (h.c.at_ _ _).1 hk
    obtain ⟨q, q1, q2⟩ := look_some hk
    rw [q1] at h1
    simp only at h1
    simp only [Int.toNat_natCast]
    have f1 := pull_con (errEnv ad mo) i l M d0 h h0 hl
    generalize hu : pullR l M i = u at *
    refine ⟨Tryd.call23, _, _, Tryd.func23, rfl, (by intro _; rw [Tryd.ntmps23]; simp), ?_⟩
    intro vs esc hesc
    rw [Tryd.ntmps23, Tryd.results23]
    have e0 := hesc 1000 (by simp)
    have e1 := hesc 1001 (by simp)
    have e2 := hesc 1002 (by simp)
    repeat (first | refine aops_op' rfl (by simp only [go_sem, AG, encM, e0, e1, e2, h1, q2]; exact ⟨rfl, rfl⟩) ?_ | refine g_run ?_ | refine g_off ?_ | refine aops_nil (d_end ?_) | refine aops_nil ?_ | refine awp_seq ?_ | refine g_text ?_ | refine g_draw Tryd.mixed ?_ | refine awp_block ?_ | refine awp_skip ?_ | (refine awp_exit ?_; simp only [thenA, blockA, ↓reduceIte, Nat.reduceEqDiff, reduceCtorEq]) | refine awp_yes' (by simp only [go_sem, AG, encM, e0, e1, e2, h1, q2]; exact Is.rfl') ?_ | refine awp_no' (by simp only [go_sem, AG, encM, e0, e1, e2, h1, q2]; exact Is.rfl') ?_)
    refine aops_inl [(1000, 1000), (1001, 1001), (1002, 1002)] rfl (f1) (by decide) (by decide) (by simp only [go_sem, AG, encM, e0, e1, e2, h1, q2] <;> rfl) (by simp only [go_sem, AG, encM, e0, e1, e2, h1, q2, and_self] <;> trivial) (by simp only [go_sem, AG, encM, e0, e1, e2, h1, q2, and_self] <;> trivial) (by intro o; simp only [go_sem, AG, encM, e0, e1, e2, h1, q2, behind, and_self] <;> trivial) (by intro o; simp only [go_sem, AG, encM, e0, e1, e2, h1, q2] <;> rfl) (by simp only [go_sem, AG, encM, e0, e1, e2, h1, q2, behind]; exact Is.rfl') (by simp only [go_sem, AG, encM, e0, e1, e2, h1, q2, behind]; exact Is.rfl') ?_
    repeat (first | refine aops_op' rfl (by simp only [go_sem, AG, encM, e0, e1, e2, h1, q2]; exact ⟨rfl, rfl⟩) ?_ | refine g_run ?_ | refine g_off ?_ | refine aops_nil (d_end ?_) | refine aops_nil ?_ | refine awp_seq ?_ | refine g_text ?_ | refine g_draw Tryd.mixed ?_ | refine awp_block ?_ | refine awp_skip ?_ | (refine awp_exit ?_; simp only [thenA, blockA, ↓reduceIte, Nat.reduceEqDiff, reduceCtorEq]) | refine awp_yes' (by simp only [go_sem, AG, encM, e0, e1, e2, h1, q2]; exact Is.rfl') ?_ | refine awp_no' (by simp only [go_sem, AG, encM, e0, e1, e2, h1, q2]; exact Is.rfl') ?_)
    (refine awp_ret ?_; (try simp only [thenA, blockA, ↓reduceIte, Nat.reduceEqDiff, reduceCtorEq]); refine retI_of ?_ ?_ <;> simp only [go_sem, AG, encM, e0, e1, e2, h1, q2, implies_true, and_self, imp_self, false_implies, AV.tuple.injEq, exists_eq_left', ne_eq])
  | none =>
    rw [look_none hk] at h1
    simp only at h1 ⊢
    have f3 := new_con (errEnv ad mo) [116, 105, 109, 101, 114, 46, 68, 114, 111, 112] (ad 4)
    refine ⟨Tryd.call23, _, _, Tryd.func23, rfl, (by intro _; rw [Tryd.ntmps23]; simp), ?_⟩
    intro vs esc hesc
    rw [Tryd.ntmps23, Tryd.results23]
    have e0 := hesc 1000 (by simp)
    have e1 := hesc 1001 (by simp)
    have e2 := hesc 1002 (by simp)
    repeat (first | refine aops_op' rfl (by simp only [go_sem, AG, e0, e1, e2, h1, gt_e4]; exact ⟨rfl, rfl⟩) ?_ | refine g_run ?_ | refine g_off ?_ | refine aops_call' rfl (f3) (by simp only [go_sem, AG, e0, e1, e2, h1, gt_e4]; exact Is.rfl') (by simp only [go_sem, AG, e0, e1, e2, h1, gt_e4]; exact ⟨rfl, rfl⟩) ?_ | refine aops_nil (d_end ?_) | refine aops_nil ?_ | refine awp_seq ?_ | refine g_text ?_ | refine g_draw Tryd.mixed ?_ | refine awp_block ?_ | refine awp_skip ?_ | (refine awp_exit ?_; simp only [thenA, blockA, ↓reduceIte, Nat.reduceEqDiff, reduceCtorEq]) | refine awp_yes' (by simp only [go_sem, AG, e0, e1, e2, h1, gt_e4]; exact Is.rfl') ?_ | refine awp_no' (by simp only [go_sem, AG, e0, e1, e2, h1, gt_e4]; exact Is.rfl') ?_)
    (refine awp_ret ?_; (try simp only [thenA, blockA, ↓reduceIte, Nat.reduceEqDiff, reduceCtorEq]); refine retI_of ?_ ?_ <;> simp only [go_sem, AG, e0, e1, e2, h1, gt_e4, implies_true, and_self, imp_self, false_implies, AV.tuple.injEq, exists_eq_left', ne_eq])

def clockB (n : Int) : Bool := decide (0 ≤ n) && decide (n ≤ 1099511627776)
def zeroD : Due := ⟨0, 0, []⟩
def takeA (ad : Nat → Addr) (l : List Due) (M : Mp) (now : Int) : (List Due × Mp) × AV := if clockB now = true then (match l with
    | [] => ((l, M), .tuple [.agg (dueC zeroD), B false, nilE])
    | d :: _ => if now < d.at_ then ((l, M), .tuple [.agg (dueC zeroD), B false, nilE]) else (pullR l M 0, .tuple [.agg (dueC d), B true, nilE]))
  else ((l, M), .tuple [.agg (dueC zeroD), B false, errV (-1) (sentV (ad 1))])
theorem tfirst_none (env : Env) (M : Mp) : ConI Tryd.prog env 22 [1000, 1001, 1002] (fun _ => false) (fun g => [.loc 1000 (g 1000) 0 0]) (fun g => AG g [] M) (fun g => AG g [] M) (fun _ => .tuple [.agg (dueC zeroD), B false]) := by
  have f1 := tlen_con env [] M
  refine ⟨Tryd.call22, _, _, Tryd.func22, rfl, (by intro _; rw [Tryd.ntmps22]; simp), ?_⟩
  intro vs esc hesc
  rw [Tryd.ntmps22, Tryd.results22]
  have e0 := hesc 1000 (by simp)
  have e1 := hesc 1001 (by simp)
  have e2 := hesc 1002 (by simp)
  repeat (first | refine aops_op' rfl (by simp only [go_sem, AG, e0, e1, e2, dueC, zeroD]; exact ⟨rfl, rfl⟩) ?_ | refine g_run ?_ | refine g_off ?_ | refine aops_nil (d_end ?_) | refine aops_nil ?_ | refine awp_seq ?_ | refine g_text ?_ | refine g_draw Tryd.mixed ?_ | refine awp_block ?_ | refine awp_skip ?_ | (refine awp_exit ?_; simp only [thenA, blockA, ↓reduceIte, Nat.reduceEqDiff, reduceCtorEq]) | refine awp_yes' (by simp only [go_sem, AG, e0, e1, e2, dueC, zeroD]; exact Is.rfl') ?_ | refine awp_no' (by simp only [go_sem, AG, e0, e1, e2, dueC, zeroD]; exact Is.rfl') ?_)
  refine aops_inl [(1000, 1000), (1001, 1001), (1002, 1002)] rfl (f1) (by decide) (by decide) (by simp only [go_sem, AG, e0, e1, e2, dueC, zeroD] <;> rfl) (by simp only [go_sem, AG, e0, e1, e2, dueC, zeroD, and_self] <;> trivial) (by simp only [go_sem, AG, e0, e1, e2, dueC, zeroD, and_self] <;> trivial) (by intro o; simp only [go_sem, AG, e0, e1, e2, dueC, zeroD, behind, and_self] <;> trivial) (by intro o; simp only [go_sem, AG, e0, e1, e2, dueC, zeroD] <;> rfl) (by simp only [go_sem, AG, e0, e1, e2, dueC, zeroD, behind]; exact Is.rfl') (by simp only [go_sem, AG, e0, e1, e2, dueC, zeroD, behind]; exact Is.rfl') ?_
  repeat (first | refine aops_op' rfl (by simp only [go_sem, AG, e0, e1, e2, dueC, zeroD]; exact ⟨rfl, rfl⟩) ?_ | refine g_run ?_ | refine g_off ?_ | refine aops_nil (d_end ?_) | refine aops_nil ?_ | refine awp_seq ?_ | refine g_text ?_ | refine g_draw Tryd.mixed ?_ | refine awp_block ?_ | refine awp_skip ?_ | (refine awp_exit ?_; simp only [thenA, blockA, ↓reduceIte, Nat.reduceEqDiff, reduceCtorEq]) | refine awp_yes' (by simp only [go_sem, AG, e0, e1, e2, dueC, zeroD]; exact Is.rfl') ?_ | refine awp_no' (by simp only [go_sem, AG, e0, e1, e2, dueC, zeroD]; exact Is.rfl') ?_)
  (refine awp_ret ?_; (try simp only [thenA, blockA, ↓reduceIte, Nat.reduceEqDiff, reduceCtorEq]); refine retI_of ?_ ?_ <;> simp only [go_sem, AG, e0, e1, e2, dueC, zeroD, implies_true, and_self, imp_self, false_implies, AV.tuple.injEq, exists_eq_left', ne_eq])
theorem ttake_con (ad : Nat → Addr) (mo : More) (now : Int) (l : List Due) (M : Mp) (h : AgOk l M) (hl : l.length ≤ 4096) :
    ConI Tryd.prog (errEnv ad mo) 17 [1000, 1001, 1002] (fun k => k == 1001) (fun g => [.loc 1000 (g 1000) 0 0, I now]) (fun g => AG g l M) (fun g => AG g (takeA ad l M now).1.1 (takeA ad l M now).1.2) (fun _ => (takeA ad l M now).2) := by
  have f0 : Con Tryd.prog (errEnv ad mo) 39 [I now] (B (clockB now)) := tclock_con (errEnv ad mo) now
  unfold takeA
  cases hc : clockB now with
  | false =>
    rw [hc] at f0
    simp only [Bool.false_eq_true, if_false]
    have f3 := new_con (errEnv ad mo) [116, 105, 109, 101, 114, 46, 84, 97, 107, 101] (ad 1)
    refine ⟨Tryd.call17, _, _, Tryd.func17, rfl, (by intro _; rw [Tryd.ntmps17]; simp), ?_⟩
    intro vs esc hesc
    rw [Tryd.ntmps17, Tryd.results17]
    have e0 := hesc 1000 (by simp)
    have e1 := hesc 1001 (by simp)
    have e2 := hesc 1002 (by simp)
    repeat (first | refine aops_op' rfl (by simp only [go_sem, AG, dueC, zeroD, e0, e1, e2, gt_e1]; exact ⟨rfl, rfl⟩) ?_ | refine g_run ?_ | refine g_off ?_ | refine aops_call' rfl (f0) (by simp only [go_sem, AG, dueC, zeroD, e0, e1, e2, gt_e1]; exact Is.rfl') (by simp only [go_sem, AG, dueC, zeroD, e0, e1, e2, gt_e1]; exact ⟨rfl, rfl⟩) ?_ | refine aops_call' rfl (f3) (by simp only [go_sem, AG, dueC, zeroD, e0, e1, e2, gt_e1]; exact Is.rfl') (by simp only [go_sem, AG, dueC, zeroD, e0, e1, e2, gt_e1]; exact ⟨rfl, rfl⟩) ?_ | refine aops_nil (d_end ?_) | refine aops_nil ?_ | refine awp_seq ?_ | refine g_text ?_ | refine g_draw Tryd.mixed ?_ | refine awp_block ?_ | refine awp_skip ?_ | (refine awp_exit ?_; simp only [thenA, blockA, ↓reduceIte, Nat.reduceEqDiff, reduceCtorEq]) | refine awp_yes' (by simp only [go_sem, AG, dueC, zeroD, e0, e1, e2, gt_e1]; exact Is.rfl') ?_ | refine awp_no' (by simp only [go_sem, AG, dueC, zeroD, e0, e1, e2, gt_e1]; exact Is.rfl') ?_)
    (refine awp_ret ?_; (try simp only [thenA, blockA, ↓reduceIte, Nat.reduceEqDiff, reduceCtorEq]); refine retI_of ?_ ?_ <;> simp only [go_sem, AG, dueC, zeroD, e0, e1, e2, gt_e1, implies_true, and_self, imp_self, false_implies, AV.tuple.injEq, exists_eq_left', ne_eq])
  | true =>
    rw [hc] at f0
    simp only [if_true]
    cases l with
    | nil =>
      have f1 := tfirst_none (errEnv ad mo) M
      refine ⟨Tryd.call17, _, _, Tryd.func17, rfl, (by intro _; rw [Tryd.ntmps17]; simp), ?_⟩
      intro vs esc hesc
      rw [Tryd.ntmps17, Tryd.results17]
      have e0 := hesc 1000 (by simp)
      have e1 := hesc 1001 (by simp)
      have e2 := hesc 1002 (by simp)
      repeat (first | refine aops_op' rfl (by simp only [go_sem, AG, dueC, zeroD, e0, e1, e2]; exact ⟨rfl, rfl⟩) ?_ | refine g_run ?_ | refine g_off ?_ | refine aops_call' rfl (f0) (by simp only [go_sem, AG, dueC, zeroD, e0, e1, e2]; exact Is.rfl') (by simp only [go_sem, AG, dueC, zeroD, e0, e1, e2]; exact ⟨rfl, rfl⟩) ?_ | refine aops_nil (d_end ?_) | refine aops_nil ?_ | refine awp_seq ?_ | refine g_text ?_ | refine g_draw Tryd.mixed ?_ | refine awp_block ?_ | refine awp_skip ?_ | (refine awp_exit ?_; simp only [thenA, blockA, ↓reduceIte, Nat.reduceEqDiff, reduceCtorEq]) | refine awp_yes' (by simp only [go_sem, AG, dueC, zeroD, e0, e1, e2]; exact Is.rfl') ?_ | refine awp_no' (by simp only [go_sem, AG, dueC, zeroD, e0, e1, e2]; exact Is.rfl') ?_)
      refine aops_inl [(1000, 1000), (1001, 1001), (1002, 1002)] rfl (f1) (by decide) (by decide) (by simp only [go_sem, AG, dueC, zeroD, e0, e1, e2] <;> rfl) (by simp only [go_sem, AG, dueC, zeroD, e0, e1, e2, and_self] <;> trivial) (by simp only [go_sem, AG, dueC, zeroD, e0, e1, e2, and_self] <;> trivial) (by intro o; simp only [go_sem, AG, dueC, zeroD, e0, e1, e2, behind, and_self] <;> trivial) (by intro o; simp only [go_sem, AG, dueC, zeroD, e0, e1, e2] <;> rfl) (by simp only [go_sem, AG, dueC, zeroD, e0, e1, e2, behind]; exact Is.rfl') (by simp only [go_sem, AG, dueC, zeroD, e0, e1, e2, behind]; exact Is.rfl') ?_
      repeat (first | refine aops_op' rfl (by simp only [go_sem, AG, dueC, zeroD, e0, e1, e2]; exact ⟨rfl, rfl⟩) ?_ | refine g_run ?_ | refine g_off ?_ | refine aops_nil (d_end ?_) | refine aops_nil ?_ | refine awp_seq ?_ | refine g_text ?_ | refine g_draw Tryd.mixed ?_ | refine awp_block ?_ | refine awp_skip ?_ | (refine awp_exit ?_; simp only [thenA, blockA, ↓reduceIte, Nat.reduceEqDiff, reduceCtorEq]) | refine awp_yes' (by simp only [go_sem, AG, dueC, zeroD, e0, e1, e2]; exact Is.rfl') ?_ | refine awp_no' (by simp only [go_sem, AG, dueC, zeroD, e0, e1, e2]; exact Is.rfl') ?_)
      (refine awp_ret ?_; (try simp only [thenA, blockA, ↓reduceIte, Nat.reduceEqDiff, reduceCtorEq]); refine retI_of ?_ ?_ <;> simp only [go_sem, AG, dueC, zeroD, e0, e1, e2, implies_true, and_self, imp_self, false_implies, AV.tuple.injEq, exists_eq_left', ne_eq])
    | cons d l =>
      have f1 := tfirst_con (errEnv ad mo) d l M
      by_cases ht : now < d.at_
      · simp only [if_pos ht]
        refine ⟨Tryd.call17, _, _, Tryd.func17, rfl, (by intro _; rw [Tryd.ntmps17]; simp), ?_⟩
        intro vs esc hesc
        rw [Tryd.ntmps17, Tryd.results17]
        have e0 := hesc 1000 (by simp)
        have e1 := hesc 1001 (by simp)
        have e2 := hesc 1002 (by simp)
        repeat (first | refine aops_op' rfl (by simp only [go_sem, AG, dueC, zeroD, e0, e1, e2, ht]; exact ⟨rfl, rfl⟩) ?_ | refine g_run ?_ | refine g_off ?_ | refine aops_call' rfl (f0) (by simp only [go_sem, AG, dueC, zeroD, e0, e1, e2, ht]; exact Is.rfl') (by simp only [go_sem, AG, dueC, zeroD, e0, e1, e2, ht]; exact ⟨rfl, rfl⟩) ?_ | refine aops_nil (d_end ?_) | refine aops_nil ?_ | refine awp_seq ?_ | refine g_text ?_ | refine g_draw Tryd.mixed ?_ | refine awp_block ?_ | refine awp_skip ?_ | (refine awp_exit ?_; simp only [thenA, blockA, ↓reduceIte, Nat.reduceEqDiff, reduceCtorEq]) | refine awp_yes' (by simp only [go_sem, AG, dueC, zeroD, e0, e1, e2, ht]; exact Is.rfl') ?_ | refine awp_no' (by simp only [go_sem, AG, dueC, zeroD, e0, e1, e2, ht]; exact Is.rfl') ?_)
        refine aops_inl [(1000, 1000), (1001, 1001), (1002, 1002)] rfl (f1) (by decide) (by decide) (by simp only [go_sem, AG, dueC, zeroD, e0, e1, e2, ht] <;> rfl) (by simp only [go_sem, AG, dueC, zeroD, e0, e1, e2, ht, and_self] <;> trivial) (by simp only [go_sem, AG, dueC, zeroD, e0, e1, e2, ht, and_self] <;> trivial) (by intro o; simp only [go_sem, AG, dueC, zeroD, e0, e1, e2, ht, behind, and_self] <;> trivial) (by intro o; simp only [go_sem, AG, dueC, zeroD, e0, e1, e2, ht] <;> rfl) (by simp only [go_sem, AG, dueC, zeroD, e0, e1, e2, ht, behind]; exact Is.rfl') (by simp only [go_sem, AG, dueC, zeroD, e0, e1, e2, ht, behind]; exact Is.rfl') ?_
        repeat (first | refine aops_op' rfl (by simp only [go_sem, AG, dueC, zeroD, e0, e1, e2, ht]; exact ⟨rfl, rfl⟩) ?_ | refine g_run ?_ | refine g_off ?_ | refine aops_nil (d_end ?_) | refine aops_nil ?_ | refine awp_seq ?_ | refine g_text ?_ | refine g_draw Tryd.mixed ?_ | refine awp_block ?_ | refine awp_skip ?_ | (refine awp_exit ?_; simp only [thenA, blockA, ↓reduceIte, Nat.reduceEqDiff, reduceCtorEq]) | refine awp_yes' (by simp only [go_sem, AG, dueC, zeroD, e0, e1, e2, ht]; exact Is.rfl') ?_ | refine awp_no' (by simp only [go_sem, AG, dueC, zeroD, e0, e1, e2, ht]; exact Is.rfl') ?_)
        (refine awp_ret ?_; (try simp only [thenA, blockA, ↓reduceIte, Nat.reduceEqDiff, reduceCtorEq]); refine retI_of ?_ ?_ <;> simp only [go_sem, AG, dueC, zeroD, e0, e1, e2, ht, implies_true, and_self, imp_self, false_implies, AV.tuple.injEq, exists_eq_left', ne_eq])
      · simp only [if_neg ht]
        have f2 := pull_con (errEnv ad mo) 0 (d :: l) M d h rfl hl
        generalize hu : pullR (d :: l) M 0 = u at *
        refine ⟨Tryd.call17, _, _, Tryd.func17, rfl, (by intro _; rw [Tryd.ntmps17]; simp), ?_⟩
        intro vs esc hesc
        rw [Tryd.ntmps17, Tryd.results17]
        have e0 := hesc 1000 (by simp)
        have e1 := hesc 1001 (by simp)
        have e2 := hesc 1002 (by simp)
        repeat (first | refine aops_op' rfl (by simp only [go_sem, AG, dueC, zeroD, e0, e1, e2, ht]; exact ⟨rfl, rfl⟩) ?_ | refine g_run ?_ | refine g_off ?_ | refine aops_call' rfl (f0) (by simp only [go_sem, AG, dueC, zeroD, e0, e1, e2, ht]; exact Is.rfl') (by simp only [go_sem, AG, dueC, zeroD, e0, e1, e2, ht]; exact ⟨rfl, rfl⟩) ?_ | refine aops_nil (d_end ?_) | refine aops_nil ?_ | refine awp_seq ?_ | refine g_text ?_ | refine g_draw Tryd.mixed ?_ | refine awp_block ?_ | refine awp_skip ?_ | (refine awp_exit ?_; simp only [thenA, blockA, ↓reduceIte, Nat.reduceEqDiff, reduceCtorEq]) | refine awp_yes' (by simp only [go_sem, AG, dueC, zeroD, e0, e1, e2, ht]; exact Is.rfl') ?_ | refine awp_no' (by simp only [go_sem, AG, dueC, zeroD, e0, e1, e2, ht]; exact Is.rfl') ?_)
        refine aops_inl [(1000, 1000), (1001, 1001), (1002, 1002)] rfl (f1) (by decide) (by decide) (by simp only [go_sem, AG, dueC, zeroD, e0, e1, e2, ht] <;> rfl) (by simp only [go_sem, AG, dueC, zeroD, e0, e1, e2, ht, and_self] <;> trivial) (by simp only [go_sem, AG, dueC, zeroD, e0, e1, e2, ht, and_self] <;> trivial) (by intro o; simp only [go_sem, AG, dueC, zeroD, e0, e1, e2, ht, behind, and_self] <;> trivial) (by intro o; simp only [go_sem, AG, dueC, zeroD, e0, e1, e2, ht] <;> rfl) (by simp only [go_sem, AG, dueC, zeroD, e0, e1, e2, ht, behind]; exact Is.rfl') (by simp only [go_sem, AG, dueC, zeroD, e0, e1, e2, ht, behind]; exact Is.rfl') ?_
        repeat (first | refine aops_op' rfl (by simp only [go_sem, AG, dueC, zeroD, e0, e1, e2, ht]; exact ⟨rfl, rfl⟩) ?_ | refine g_run ?_ | refine g_off ?_ | refine aops_nil (d_end ?_) | refine aops_nil ?_ | refine awp_seq ?_ | refine g_text ?_ | refine g_draw Tryd.mixed ?_ | refine awp_block ?_ | refine awp_skip ?_ | (refine awp_exit ?_; simp only [thenA, blockA, ↓reduceIte, Nat.reduceEqDiff, reduceCtorEq]) | refine awp_yes' (by simp only [go_sem, AG, dueC, zeroD, e0, e1, e2, ht]; exact Is.rfl') ?_ | refine awp_no' (by simp only [go_sem, AG, dueC, zeroD, e0, e1, e2, ht]; exact Is.rfl') ?_)
        refine aops_inl [(1000, 1000), (1001, 1001), (1002, 1002)] rfl (f2) (by decide) (by decide) (by simp only [go_sem, AG, dueC, zeroD, e0, e1, e2, ht] <;> rfl) (by simp only [go_sem, AG, dueC, zeroD, e0, e1, e2, ht, and_self] <;> trivial) (by simp only [go_sem, AG, dueC, zeroD, e0, e1, e2, ht, and_self] <;> trivial) (by intro o; simp only [go_sem, AG, dueC, zeroD, e0, e1, e2, ht, behind, and_self] <;> trivial) (by intro o; simp only [go_sem, AG, dueC, zeroD, e0, e1, e2, ht] <;> rfl) (by simp only [go_sem, AG, dueC, zeroD, e0, e1, e2, ht, behind]; exact Is.rfl') (by simp only [go_sem, AG, dueC, zeroD, e0, e1, e2, ht, behind]; exact Is.rfl') ?_
        repeat (first | refine aops_op' rfl (by simp only [go_sem, AG, dueC, zeroD, e0, e1, e2, ht]; exact ⟨rfl, rfl⟩) ?_ | refine g_run ?_ | refine g_off ?_ | refine aops_nil (d_end ?_) | refine aops_nil ?_ | refine awp_seq ?_ | refine g_text ?_ | refine g_draw Tryd.mixed ?_ | refine awp_block ?_ | refine awp_skip ?_ | (refine awp_exit ?_; simp only [thenA, blockA, ↓reduceIte, Nat.reduceEqDiff, reduceCtorEq]) | refine awp_yes' (by simp only [go_sem, AG, dueC, zeroD, e0, e1, e2, ht]; exact Is.rfl') ?_ | refine awp_no' (by simp only [go_sem, AG, dueC, zeroD, e0, e1, e2, ht]; exact Is.rfl') ?_)
        (refine awp_ret ?_; (try simp only [thenA, blockA, ↓reduceIte, Nat.reduceEqDiff, reduceCtorEq]); refine retI_of ?_ ?_ <;> simp only [go_sem, AG, dueC, zeroD, e0, e1, e2, ht, implies_true, and_self, imp_self, false_implies, AV.tuple.injEq, exists_eq_left', ne_eq])
theorem twhole_con (env : Env) (l : List Due) (M : Mp) (h : AgOk l M) (hl : l.length ≤ 4096) :
    ConI Tryd.prog env 13 [1000, 1001, 1002] (fun _ => false) (fun g => [.loc 1000 (g 1000) 0 0]) (fun g => AG g l M) (fun g => AG g l M) (fun _ => B true) := by
  refine ⟨Tryd.call13, _, _, Tryd.func13, rfl, (by intro _; rw [Tryd.ntmps13]; simp), ?_⟩
  intro vs esc hesc
  rw [Tryd.ntmps13, Tryd.results13]
  have e0 := hesc 1000 (by simp)
  have e1 := hesc 1001 (by simp)
  have e2 := hesc 1002 (by simp)
  repeat (first | refine aops_op' rfl (by simp only [go_sem, AG, e0, e1, e2]; exact ⟨rfl, rfl⟩) ?_ | refine g_run ?_ | refine g_off ?_ | refine aops_nil (d_end ?_) | refine aops_nil ?_ | refine awp_seq ?_ | refine g_text ?_ | refine g_draw Tryd.mixed ?_ | refine awp_block ?_ | refine awp_skip ?_ | (refine awp_exit ?_; simp only [thenA, blockA, ↓reduceIte, Nat.reduceEqDiff, reduceCtorEq]) | refine awp_yes' (by simp only [go_sem, AG, e0, e1, e2]; exact Is.rfl') ?_ | refine awp_no' (by simp only [go_sem, AG, e0, e1, e2]; exact Is.rfl') ?_)
  refine awp_loopH (D := Nat) (fun n vs' => [(0, .loc 1000 (vs' 1000) 0 0), (10, .row 1001 (vs' 1001)), (11, I l.length), (12, I n)]) (fun n vs' => AG vs' l M) (fun n vs' esc' => n ≤ l.length ∧ (vs' 1000 = vs 1000 ∧ vs' 1001 = vs 1001 ∧ vs' 1002 = vs 1002) ∧ esc' 1000 = false ∧ esc' 1001 = false ∧ esc' 1002 = false) (fun n => l.length - n) 0 ?_ ?_ ?_ ?_
  · exact ⟨Nat.zero_le _, ⟨rfl, rfl, rfl⟩, e0, e1, e2⟩
  · (simp only [go_sem, AG, e0, e1, e2])
  · (simp only [go_sem, AG])
  clear e0 e1 e2
  rintro n ws es ⟨hn, ⟨v0, v1, v2⟩, e0, e1, e2⟩
  by_cases hlt : n < l.length
  · obtain ⟨d, hd⟩ : ∃ x, l[n]? = some x := ⟨l[n], List.getElem?_eq_getElem hlt⟩
    obtain ⟨q, q1, q2⟩ := look_some (h.c.find hd)
    have h1 := mfind_M (d.inst, d.name) M 0
    rw [show idxM (d.inst, d.name) M 0 = some q from q1] at h1
    simp only at h1
    have f1 := tkey_con env d
    have g1 := nlt hlt
    have g2 := wrap_succ hlt (by omega)
    simp only [keyD] at q2
    by_cases h0 : 0 < n
    · obtain ⟨y, hy⟩ : ∃ y, l[(n - 1) / 2]? = some y := ⟨l[(n - 1) / 2]'(by omega), List.getElem?_eq_getElem (by omega)⟩
      have f2 := less_con env d y
      rw [h.h n h0 d y hd hy] at f2
      have c0 : (0 : Int) < (n : Int) := by omega
      have c1 : IntKind.i64.wrap ((n : Int) - 1) = ((n - 1 : Nat) : Int) := by rw [wrap_in (by omega) (by omega)]; omega
      have c2 : IntKind.i64.wrap (((n - 1 : Nat) : Int).tdiv 2) = (((n - 1) / 2 : Nat) : Int) := by rw [show ((n - 1 : Nat) : Int).tdiv 2 = (((n - 1) / 2 : Nat) : Int) from rfl, wrap_in (by omega) (by omega)]
      have c3 : (((n - 1) / 2 : Nat) : Int) < (l.length : Int) := by omega
      repeat (first | refine aops_op' rfl (by simp only [go_sem, AG, dueC, keyC, encM, e0, e1, e2, h1, q2, hd, hy, g1, g2, c0, c1, c2, c3]; exact ⟨rfl, rfl⟩) ?_ | refine g_run ?_ | refine g_off ?_ | refine aops_call' rfl (f1) (by simp only [go_sem, AG, dueC, keyC, encM, e0, e1, e2, h1, q2, hd, hy, g1, g2, c0, c1, c2, c3]; exact Is.rfl') (by simp only [go_sem, AG, dueC, keyC, encM, e0, e1, e2, h1, q2, hd, hy, g1, g2, c0, c1, c2, c3]; exact ⟨rfl, rfl⟩) ?_ | refine aops_call' rfl (f2) (by simp only [go_sem, AG, dueC, keyC, encM, e0, e1, e2, h1, q2, hd, hy, g1, g2, c0, c1, c2, c3]; exact Is.rfl') (by simp only [go_sem, AG, dueC, keyC, encM, e0, e1, e2, h1, q2, hd, hy, g1, g2, c0, c1, c2, c3]; exact ⟨rfl, rfl⟩) ?_ | refine aops_nil (d_end ?_) | refine aops_nil ?_ | refine awp_seq ?_ | refine g_text ?_ | refine g_draw Tryd.mixed ?_ | refine awp_block ?_ | refine awp_skip ?_ | (refine awp_exit ?_; simp only [thenA, blockA, ↓reduceIte, Nat.reduceEqDiff, reduceCtorEq]) | refine awp_yes' (by simp only [go_sem, AG, dueC, keyC, encM, e0, e1, e2, h1, q2, hd, hy, g1, g2, c0, c1, c2, c3]; exact Is.rfl') ?_ | refine awp_no' (by simp only [go_sem, AG, dueC, keyC, encM, e0, e1, e2, h1, q2, hd, hy, g1, g2, c0, c1, c2, c3]; exact Is.rfl') ?_)
      refine ⟨n + 1, ⟨hlt, ⟨?_, ?_, ?_⟩, ?_, ?_, ?_⟩, ?_, ?_, ?_⟩
      · simp only [go_sem, v0]
      · simp only [go_sem, v1]
      · simp only [go_sem, v2]
      · simp only [go_sem, e0]
      · simp only [go_sem, e1]
      · simp only [go_sem, e2]
      · (simp only [go_sem, AG, dueC, keyC, encM, e0, e1, e2, h1, q2, hd, hy, g1, g2, c0, c1, c2, c3])
      · (simp only [go_sem, AG, dueC, keyC, encM, e0, e1, e2, h1, q2, hd, hy, g1, g2, c0, c1, c2, c3])
      · omega
    · have c0 : ¬ (0 : Int) < (n : Int) := by omega
      repeat (first | refine aops_op' rfl (by simp only [go_sem, AG, dueC, keyC, encM, e0, e1, e2, h1, q2, hd, g1, g2, c0]; exact ⟨rfl, rfl⟩) ?_ | refine g_run ?_ | refine g_off ?_ | refine aops_call' rfl (f1) (by simp only [go_sem, AG, dueC, keyC, encM, e0, e1, e2, h1, q2, hd, g1, g2, c0]; exact Is.rfl') (by simp only [go_sem, AG, dueC, keyC, encM, e0, e1, e2, h1, q2, hd, g1, g2, c0]; exact ⟨rfl, rfl⟩) ?_ | refine aops_nil (d_end ?_) | refine aops_nil ?_ | refine awp_seq ?_ | refine g_text ?_ | refine g_draw Tryd.mixed ?_ | refine awp_block ?_ | refine awp_skip ?_ | (refine awp_exit ?_; simp only [thenA, blockA, ↓reduceIte, Nat.reduceEqDiff, reduceCtorEq]) | refine awp_yes' (by simp only [go_sem, AG, dueC, keyC, encM, e0, e1, e2, h1, q2, hd, g1, g2, c0]; exact Is.rfl') ?_ | refine awp_no' (by simp only [go_sem, AG, dueC, keyC, encM, e0, e1, e2, h1, q2, hd, g1, g2, c0]; exact Is.rfl') ?_)
      refine ⟨n + 1, ⟨hlt, ⟨?_, ?_, ?_⟩, ?_, ?_, ?_⟩, ?_, ?_, ?_⟩
      · simp only [go_sem, v0]
      · simp only [go_sem, v1]
      · simp only [go_sem, v2]
      · simp only [go_sem, e0]
      · simp only [go_sem, e1]
      · simp only [go_sem, e2]
      · (simp only [go_sem, AG, dueC, keyC, encM, e0, e1, e2, h1, q2, hd, g1, g2, c0])
      · (simp only [go_sem, AG, dueC, keyC, encM, e0, e1, e2, h1, q2, hd, g1, g2, c0])
      · omega
  · have g1 : ¬ (n : Int) < (l.length : Int) := by omega
    have hc := h.c.len
    repeat (first | refine aops_op' rfl (by simp only [go_sem, AG, e0, e1, e2, g1, hc, v0, v1, v2]; exact ⟨rfl, rfl⟩) ?_ | refine g_run ?_ | refine g_off ?_ | refine aops_nil (d_end ?_) | refine aops_nil ?_ | refine awp_seq ?_ | refine g_text ?_ | refine g_draw Tryd.mixed ?_ | refine awp_block ?_ | refine awp_skip ?_ | (refine awp_exit ?_; simp only [thenA, blockA, ↓reduceIte, Nat.reduceEqDiff, reduceCtorEq]) | refine awp_yes' (by simp only [go_sem, AG, e0, e1, e2, g1, hc, v0, v1, v2]; exact Is.rfl') ?_ | refine awp_no' (by simp only [go_sem, AG, e0, e1, e2, g1, hc, v0, v1, v2]; exact Is.rfl') ?_)
    (refine awp_ret ?_; (try simp only [thenA, blockA, ↓reduceIte, Nat.reduceEqDiff, reduceCtorEq]); refine retI_of ?_ ?_ <;> simp only [go_sem, AG, e0, e1, e2, g1, hc, v0, v1, v2, implies_true, and_self, imp_self, false_implies, AV.tuple.injEq, exists_eq_left', ne_eq])
end Go.Proofs.YthepkabfiooabaaDoor
