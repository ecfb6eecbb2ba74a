/- Contracts of dues: which is ahead, is one right, whose it is. -/
import Derived.Test.YthepkabfiooabaaDoorE1
import Derived.Test.YthepkabfiooabaaDoorCN
import Derived.Test.YthepkabfiooabaaDoorVI
import Derived.Test.YthepkabfiooabaaDoorVR
set_option linter.unusedSimpArgs false
namespace Go.Proofs.YthepkabfiooabaaDoor
open Go.RowKit
set_option maxRecDepth 100000
set_option maxHeartbeats 1000000
attribute [local go_sem_proc ↓] reduceIte
attribute [local go_sem_proc] reduceCtorEq Nat.reduceBEq Nat.reduceAdd Nat.reduceSub Nat.reduceEqDiff Nat.reduceLT Nat.reduceLeDiff Nat.reduceMul Int.reduceToNat Int.reduceBEq Int.reduceBNe Int.reduceEq Int.reduceLT Int.reduceLE
attribute [local go_sem] ev_clear ev_makeFunc funcRd evClear List.isEmpty_cons Array.isEmpty_iff ev_makeMap ev_lookup ev_mapUpdate ev_delete evMakeMap evLookup evMapUpdate evDelete pureOf keyCmp mfind oneCells Rd.map AV.bare AV.bare.bareL AV.ofVal resRd resOne resAll HoldF HoldR Takes thenA blockA ev_move ev_assign ev_pick ev_alloc ev_box ev_build ev_buildSlice ev_load ev_store ev_binOp ev_unOp ev_convert ev_iface ev_make ev_slice ev_fieldAddr ev_field ev_indexAddr ev_index ev_extract ev_len ev_append ev_min ev_max evMin evMax gt_tmp gt_int gt_bool gt_str gt_nilS gt_nilP gt_nilI pickRd allocRd buildRd sliceRd loadRd unRd ifaceRd exRd val optRd callRd seen AV.plain adopt fzArgs Rd.run AV.asCells newBox runL Comes' Rd.row Rd.bind Out.app apps Eff.app St.renew St.setRow St.show St.put St.init upd evStore evBinR evBin eqFs eqCell evConv evSeq evLen evIndexAddr evFieldAddr evField evIndex bound evSlice evSliceF evAppend evMake loadOf fillAV fillEs fzParts fz fzCell fzCells shows isConstOp splice wrs wes Value.oneCell' List.getD_cons_zero List.getD_cons_succ List.getD_nil List.length_cons List.length_nil List.map_cons List.map_nil List.nil_append List.cons_append List.all_cons List.all_nil List.getElem?_cons_zero List.getElem?_cons_succ List.set_cons_zero List.set_cons_succ List.take_succ_cons List.take_zero List.drop_succ_cons List.drop_zero List.take_nil List.drop_nil List.replicate_succ List.replicate_zero Bool.and_true Bool.true_and Bool.and_self and_self true_and and_true Nat.zero_add Nat.add_zero Option.some.injEq Nat.zero_lt_succ Bool.not_true Bool.not_false ne_eq not_true_eq_false not_false_eq_true Option.map_some Option.map_none List.toList_toArray head headF headR List.length_map Int.toNat_natCast Int.natCast_nonneg List.getElem?_map decide_true decide_false Bool.false_eq_true if_true if_false Bool.or_self Bool.or_true Bool.true_or Bool.false_or Bool.or_false Bool.and_false Bool.false_and List.flatten_cons List.flatten_nil List.append_nil nat0 or_self or_false false_or or_true true_or and_false false_and List.length_append List.isEmpty_nil bne_self_eq_false beq_self_eq_true fits_small strL_l bytesOf_map wants Int.cast_ofNat_Int gt_iff_lt ge_iff_le
attribute [local go_sem ←] List.map_drop List.map_take

structure Due where
  at_ : Int
  inst : Int
  name : List UInt8
def dueC (d : Due) : List AV := [I d.at_, I d.inst, Sg d.name]
def dueLess (a b : Due) : Bool := if a.at_ = b.at_ then (if a.inst = b.inst then Op.bytesLess a.name b.name else decide (a.inst < b.inst)) else decide (a.at_ < b.at_)
def keyC (d : Due) : List AV := [I d.inst, Sg d.name]
def rightD (d : Due) : Bool := decide (0 ≤ d.at_) && decide (d.at_ ≤ 1099511627776) && decide (0 ≤ d.inst) && decide (d.inst ≤ 2147483647) && nameB d.name

theorem less_con (env : Env) (a b : Due) : Con Tryd.prog env 35 [.agg (dueC a), .agg (dueC b)] (B (dueLess a b)) := by
  obtain ⟨a1, a2, a3⟩ := a
  obtain ⟨b1, b2, b3⟩ := b
  by_cases h1 : a1 = b1
  · subst h1
    by_cases h2 : a2 = b2
    · subst h2
      have e1 : (a1 != a1) = false := by simp
      have e2 : (a2 != a2) = false := by simp
      refine con_of_body Tryd.func35 rfl Tryd.call35 (by rw [Tryd.ntmps35]; simp) ?_
      rw [Tryd.ntmps35, Tryd.results35]
      repeat (first | refine aops_op' rfl (by simp only [go_sem, dueC, dueLess, e1, e2]; exact ⟨rfl, rfl⟩) ?_ | refine g_run ?_ | refine g_off ?_ | refine aops_nil (d_end ?_) | refine aops_nil ?_ | refine awp_seq ?_ | refine g_text ?_ | refine g_draw Tryd.mixed ?_ | refine awp_block ?_ | refine awp_skip ?_ | (refine awp_exit ?_; simp only [thenA, blockA, ↓reduceIte, Nat.reduceEqDiff, reduceCtorEq]) | refine awp_yes' (by simp only [go_sem, dueC, dueLess, e1, e2]; exact Is.rfl') ?_ | refine awp_no' (by simp only [go_sem, dueC, dueLess, e1, e2]; exact Is.rfl') ?_)
      (refine awp_ret ?_; show (resRd _ _ _).run _ = some _; simp only [go_sem, dueC, dueLess, e1, e2])
    · have e1 : (a1 != a1) = false := by simp
      have e2 : (a2 != b2) = true := by simpa using h2
      refine con_of_body Tryd.func35 rfl Tryd.call35 (by rw [Tryd.ntmps35]; simp) ?_
      rw [Tryd.ntmps35, Tryd.results35]
      repeat (first | refine aops_op' rfl (by simp only [go_sem, dueC, dueLess, e1, e2, h2]; exact ⟨rfl, rfl⟩) ?_ | refine g_run ?_ | refine g_off ?_ | refine aops_nil (d_end ?_) | refine aops_nil ?_ | refine awp_seq ?_ | refine g_text ?_ | refine g_draw Tryd.mixed ?_ | refine awp_block ?_ | refine awp_skip ?_ | (refine awp_exit ?_; simp only [thenA, blockA, ↓reduceIte, Nat.reduceEqDiff, reduceCtorEq]) | refine awp_yes' (by simp only [go_sem, dueC, dueLess, e1, e2, h2]; exact Is.rfl') ?_ | refine awp_no' (by simp only [go_sem, dueC, dueLess, e1, e2, h2]; exact Is.rfl') ?_)
      (refine awp_ret ?_; show (resRd _ _ _).run _ = some _; simp only [go_sem, dueC, dueLess, e1, e2, h2])
  · have e1 : (a1 != b1) = true := by simpa using h1
    refine con_of_body Tryd.func35 rfl Tryd.call35 (by rw [Tryd.ntmps35]; simp) ?_
    rw [Tryd.ntmps35, Tryd.results35]
    repeat (first | refine aops_op' rfl (by simp only [go_sem, dueC, dueLess, e1, h1]; exact ⟨rfl, rfl⟩) ?_ | refine g_run ?_ | refine g_off ?_ | refine aops_nil (d_end ?_) | refine aops_nil ?_ | refine awp_seq ?_ | refine g_text ?_ | refine g_draw Tryd.mixed ?_ | refine awp_block ?_ | refine awp_skip ?_ | (refine awp_exit ?_; simp only [thenA, blockA, ↓reduceIte, Nat.reduceEqDiff, reduceCtorEq]) | refine awp_yes' (by simp only [go_sem, dueC, dueLess, e1, h1]; exact Is.rfl') ?_ | refine awp_no' (by simp only [go_sem, dueC, dueLess, e1, h1]; exact Is.rfl') ?_)
    (refine awp_ret ?_; show (resRd _ _ _).run _ = some _; simp only [go_sem, dueC, dueLess, e1, h1])
theorem rless_con (env : Env) (a b : Due) : Con Tryd.prog env 52 [.agg (dueC a), .agg (dueC b)] (B (dueLess a b)) := by
  obtain ⟨a1, a2, a3⟩ := a
  obtain ⟨b1, b2, b3⟩ := b
  by_cases h1 : a1 = b1
  · subst h1
    by_cases h2 : a2 = b2
    · subst h2
      have e1 : (a1 != a1) = false := by simp
      have e2 : (a2 != a2) = false := by simp
      refine con_of_body Tryd.func52 rfl Tryd.call52 (by rw [Tryd.ntmps52]; simp) ?_
      rw [Tryd.ntmps52, Tryd.results52]
      repeat (first | refine aops_op' rfl (by simp only [go_sem, dueC, dueLess, e1, e2]; exact ⟨rfl, rfl⟩) ?_ | refine g_run ?_ | refine g_off ?_ | refine aops_nil (d_end ?_) | refine aops_nil ?_ | refine awp_seq ?_ | refine g_text ?_ | refine g_draw Tryd.mixed ?_ | refine awp_block ?_ | refine awp_skip ?_ | (refine awp_exit ?_; simp only [thenA, blockA, ↓reduceIte, Nat.reduceEqDiff, reduceCtorEq]) | refine awp_yes' (by simp only [go_sem, dueC, dueLess, e1, e2]; exact Is.rfl') ?_ | refine awp_no' (by simp only [go_sem, dueC, dueLess, e1, e2]; exact Is.rfl') ?_)
      (refine awp_ret ?_; show (resRd _ _ _).run _ = some _; simp only [go_sem, dueC, dueLess, e1, e2])
    · have e1 : (a1 != a1) = false := by simp
      have e2 : (a2 != b2) = true := by simpa using h2
      refine con_of_body Tryd.func52 rfl Tryd.call52 (by rw [Tryd.ntmps52]; simp) ?_
      rw [Tryd.ntmps52, Tryd.results52]
      repeat (first | refine aops_op' rfl (by simp only [go_sem, dueC, dueLess, e1, e2, h2]; exact ⟨rfl, rfl⟩) ?_ | refine g_run ?_ | refine g_off ?_ | refine aops_nil (d_end ?_) | refine aops_nil ?_ | refine awp_seq ?_ | refine g_text ?_ | refine g_draw Tryd.mixed ?_ | refine awp_block ?_ | refine awp_skip ?_ | (refine awp_exit ?_; simp only [thenA, blockA, ↓reduceIte, Nat.reduceEqDiff, reduceCtorEq]) | refine awp_yes' (by simp only [go_sem, dueC, dueLess, e1, e2, h2]; exact Is.rfl') ?_ | refine awp_no' (by simp only [go_sem, dueC, dueLess, e1, e2, h2]; exact Is.rfl') ?_)
      (refine awp_ret ?_; show (resRd _ _ _).run _ = some _; simp only [go_sem, dueC, dueLess, e1, e2, h2])
  · have e1 : (a1 != b1) = true := by simpa using h1
    refine con_of_body Tryd.func52 rfl Tryd.call52 (by rw [Tryd.ntmps52]; simp) ?_
    rw [Tryd.ntmps52, Tryd.results52]
    repeat (first | refine aops_op' rfl (by simp only [go_sem, dueC, dueLess, e1, h1]; exact ⟨rfl, rfl⟩) ?_ | refine g_run ?_ | refine g_off ?_ | refine aops_nil (d_end ?_) | refine aops_nil ?_ | refine awp_seq ?_ | refine g_text ?_ | refine g_draw Tryd.mixed ?_ | refine awp_block ?_ | refine awp_skip ?_ | (refine awp_exit ?_; simp only [thenA, blockA, ↓reduceIte, Nat.reduceEqDiff, reduceCtorEq]) | refine awp_yes' (by simp only [go_sem, dueC, dueLess, e1, h1]; exact Is.rfl') ?_ | refine awp_no' (by simp only [go_sem, dueC, dueLess, e1, h1]; exact Is.rfl') ?_)
    (refine awp_ret ?_; show (resRd _ _ _).run _ = some _; simp only [go_sem, dueC, dueLess, e1, h1])
theorem tclock_con (env : Env) (n : Int) : Con Tryd.prog env 39 [I n] (B (decide (0 ≤ n) && decide (n ≤ 1099511627776))) := by
  by_cases h : 0 ≤ n
  · refine con_of_body Tryd.func39 rfl Tryd.call39 (by rw [Tryd.ntmps39]; simp) ?_
    rw [Tryd.ntmps39, Tryd.results39]
    repeat (first | refine aops_op' rfl (by simp only [go_sem, h]; exact ⟨rfl, rfl⟩) ?_ | refine g_run ?_ | refine g_off ?_ | refine aops_nil (d_end ?_) | refine aops_nil ?_ | refine awp_seq ?_ | refine g_text ?_ | refine g_draw Tryd.mixed ?_ | refine awp_block ?_ | refine awp_skip ?_ | (refine awp_exit ?_; simp only [thenA, blockA, ↓reduceIte, Nat.reduceEqDiff, reduceCtorEq]) | refine awp_yes' (by simp only [go_sem, h]; exact Is.rfl') ?_ | refine awp_no' (by simp only [go_sem, h]; exact Is.rfl') ?_)
    (refine awp_ret ?_; show (resRd _ _ _).run _ = some _; simp only [go_sem, h])
  · refine con_of_body Tryd.func39 rfl Tryd.call39 (by rw [Tryd.ntmps39]; simp) ?_
    rw [Tryd.ntmps39, Tryd.results39]
    repeat (first | refine aops_op' rfl (by simp only [go_sem, h]; exact ⟨rfl, rfl⟩) ?_ | refine g_run ?_ | refine g_off ?_ | refine aops_nil (d_end ?_) | refine aops_nil ?_ | refine awp_seq ?_ | refine g_text ?_ | refine g_draw Tryd.mixed ?_ | refine awp_block ?_ | refine awp_skip ?_ | (refine awp_exit ?_; simp only [thenA, blockA, ↓reduceIte, Nat.reduceEqDiff, reduceCtorEq]) | refine awp_yes' (by simp only [go_sem, h]; exact Is.rfl') ?_ | refine awp_no' (by simp only [go_sem, h]; exact Is.rfl') ?_)
    (refine awp_ret ?_; show (resRd _ _ _).run _ = some _; simp only [go_sem, h])
theorem tokName_con (env : Env) (l : List UInt8) (hl : l.length ≤ 9223372036854775807) : Con Tryd.prog env 45 [Sg l] (B (nameB l)) :=
  con_lit Tryd.call45 fun w S vs hE hlen hv => by
    match vs, hlen with
    | [v], _ =>
      obtain rfl := (hv 0 v _ rfl rfl).lit_inv
      refine (name_any l hl w).mono ?_
      rintro e w' ⟨rfl, rfl⟩
      exact ⟨rfl, Below.refl _ _⟩
theorem tcheck_con (ad : Nat → Addr) (mo : More) (d : Due) (hl : d.name.length ≤ 9223372036854775807) : Con Tryd.prog (errEnv ad mo) 27 [.agg (dueC d)] (if rightD d then nilE else errV (-1) (sentV (ad 1))) := by
  obtain ⟨t, n, s⟩ := d
  have f1 := tclock_con (errEnv ad mo) t
  have f2 := tokName_con (errEnv ad mo) s hl
  have f3 := new_con (errEnv ad mo) [116, 105, 109, 101, 114, 46, 67, 104, 101, 99, 107] (ad 1)
  by_cases h1 : (decide (0 ≤ t) && decide (t ≤ 1099511627776)) = true
  · by_cases h2 : n < 0
    · have h2' : ¬ 0 ≤ n := by omega
      refine con_of_body Tryd.func27 rfl Tryd.call27 (by rw [Tryd.ntmps27]; simp) ?_
      rw [Tryd.ntmps27, Tryd.results27]
      repeat (first | refine aops_op' rfl (by simp only [go_sem, dueC, rightD, h1, h2, h2', gt_e1]; exact ⟨rfl, rfl⟩) ?_ | refine g_run ?_ | refine g_off ?_ | refine aops_call' rfl (f1) (by simp only [go_sem, dueC, rightD, h1, h2, h2', gt_e1]; exact Is.rfl') (by simp only [go_sem, dueC, rightD, h1, h2, h2', gt_e1]; exact ⟨rfl, rfl⟩) ?_ | refine aops_call' rfl (f2) (by simp only [go_sem, dueC, rightD, h1, h2, h2', gt_e1]; exact Is.rfl') (by simp only [go_sem, dueC, rightD, h1, h2, h2', gt_e1]; exact ⟨rfl, rfl⟩) ?_ | refine aops_call' rfl (f3) (by simp only [go_sem, dueC, rightD, h1, h2, h2', gt_e1]; exact Is.rfl') (by simp only [go_sem, dueC, rightD, h1, h2, h2', gt_e1]; exact ⟨rfl, rfl⟩) ?_ | refine aops_nil (d_end ?_) | refine aops_nil ?_ | refine awp_seq ?_ | refine g_text ?_ | refine g_draw Tryd.mixed ?_ | refine awp_block ?_ | refine awp_skip ?_ | (refine awp_exit ?_; simp only [thenA, blockA, ↓reduceIte, Nat.reduceEqDiff, reduceCtorEq]) | refine awp_yes' (by simp only [go_sem, dueC, rightD, h1, h2, h2', gt_e1]; exact Is.rfl') ?_ | refine awp_no' (by simp only [go_sem, dueC, rightD, h1, h2, h2', gt_e1]; exact Is.rfl') ?_)
      (refine awp_ret ?_; show (resRd _ _ _).run _ = some _; simp only [go_sem, dueC, rightD, h1, h2, h2', gt_e1])
    · have h2' : 0 ≤ n := by omega
      by_cases h3 : 2147483647 < n
      · have h3' : ¬ n ≤ 2147483647 := by omega
        refine con_of_body Tryd.func27 rfl Tryd.call27 (by rw [Tryd.ntmps27]; simp) ?_
        rw [Tryd.ntmps27, Tryd.results27]
        repeat (first | refine aops_op' rfl (by simp only [go_sem, dueC, rightD, h1, h2, h2', h3, h3', gt_e1]; exact ⟨rfl, rfl⟩) ?_ | refine g_run ?_ | refine g_off ?_ | refine aops_call' rfl (f1) (by simp only [go_sem, dueC, rightD, h1, h2, h2', h3, h3', gt_e1]; exact Is.rfl') (by simp only [go_sem, dueC, rightD, h1, h2, h2', h3, h3', gt_e1]; exact ⟨rfl, rfl⟩) ?_ | refine aops_call' rfl (f2) (by simp only [go_sem, dueC, rightD, h1, h2, h2', h3, h3', gt_e1]; exact Is.rfl') (by simp only [go_sem, dueC, rightD, h1, h2, h2', h3, h3', gt_e1]; exact ⟨rfl, rfl⟩) ?_ | refine aops_call' rfl (f3) (by simp only [go_sem, dueC, rightD, h1, h2, h2', h3, h3', gt_e1]; exact Is.rfl') (by simp only [go_sem, dueC, rightD, h1, h2, h2', h3, h3', gt_e1]; exact ⟨rfl, rfl⟩) ?_ | refine aops_nil (d_end ?_) | refine aops_nil ?_ | refine awp_seq ?_ | refine g_text ?_ | refine g_draw Tryd.mixed ?_ | refine awp_block ?_ | refine awp_skip ?_ | (refine awp_exit ?_; simp only [thenA, blockA, ↓reduceIte, Nat.reduceEqDiff, reduceCtorEq]) | refine awp_yes' (by simp only [go_sem, dueC, rightD, h1, h2, h2', h3, h3', gt_e1]; exact Is.rfl') ?_ | refine awp_no' (by simp only [go_sem, dueC, rightD, h1, h2, h2', h3, h3', gt_e1]; exact Is.rfl') ?_)
        (refine awp_ret ?_; show (resRd _ _ _).run _ = some _; simp only [go_sem, dueC, rightD, h1, h2, h2', h3, h3', gt_e1])
      · have h3' : n ≤ 2147483647 := by omega
        cases h4 : nameB s
        · refine con_of_body Tryd.func27 rfl Tryd.call27 (by rw [Tryd.ntmps27]; simp) ?_
          rw [Tryd.ntmps27, Tryd.results27]
          repeat (first | refine aops_op' rfl (by simp only [go_sem, dueC, rightD, h1, h2, h2', h3, h3', h4, gt_e1]; exact ⟨rfl, rfl⟩) ?_ | refine g_run ?_ | refine g_off ?_ | refine aops_call' rfl (f1) (by simp only [go_sem, dueC, rightD, h1, h2, h2', h3, h3', h4, gt_e1]; exact Is.rfl') (by simp only [go_sem, dueC, rightD, h1, h2, h2', h3, h3', h4, gt_e1]; exact ⟨rfl, rfl⟩) ?_ | refine aops_call' rfl (f2) (by simp only [go_sem, dueC, rightD, h1, h2, h2', h3, h3', h4, gt_e1]; exact Is.rfl') (by simp only [go_sem, dueC, rightD, h1, h2, h2', h3, h3', h4, gt_e1]; exact ⟨rfl, rfl⟩) ?_ | refine aops_call' rfl (f3) (by simp only [go_sem, dueC, rightD, h1, h2, h2', h3, h3', h4, gt_e1]; exact Is.rfl') (by simp only [go_sem, dueC, rightD, h1, h2, h2', h3, h3', h4, gt_e1]; exact ⟨rfl, rfl⟩) ?_ | refine aops_nil (d_end ?_) | refine aops_nil ?_ | refine awp_seq ?_ | refine g_text ?_ | refine g_draw Tryd.mixed ?_ | refine awp_block ?_ | refine awp_skip ?_ | (refine awp_exit ?_; simp only [thenA, blockA, ↓reduceIte, Nat.reduceEqDiff, reduceCtorEq]) | refine awp_yes' (by simp only [go_sem, dueC, rightD, h1, h2, h2', h3, h3', h4, gt_e1]; exact Is.rfl') ?_ | refine awp_no' (by simp only [go_sem, dueC, rightD, h1, h2, h2', h3, h3', h4, gt_e1]; exact Is.rfl') ?_)
          (refine awp_ret ?_; show (resRd _ _ _).run _ = some _; simp only [go_sem, dueC, rightD, h1, h2, h2', h3, h3', h4, gt_e1])
        · refine con_of_body Tryd.func27 rfl Tryd.call27 (by rw [Tryd.ntmps27]; simp) ?_
          rw [Tryd.ntmps27, Tryd.results27]
          repeat (first | refine aops_op' rfl (by simp only [go_sem, dueC, rightD, h1, h2, h2', h3, h3', h4]; exact ⟨rfl, rfl⟩) ?_ | refine g_run ?_ | refine g_off ?_ | refine aops_call' rfl (f1) (by simp only [go_sem, dueC, rightD, h1, h2, h2', h3, h3', h4]; exact Is.rfl') (by simp only [go_sem, dueC, rightD, h1, h2, h2', h3, h3', h4]; exact ⟨rfl, rfl⟩) ?_ | refine aops_call' rfl (f2) (by simp only [go_sem, dueC, rightD, h1, h2, h2', h3, h3', h4]; exact Is.rfl') (by simp only [go_sem, dueC, rightD, h1, h2, h2', h3, h3', h4]; exact ⟨rfl, rfl⟩) ?_ | refine aops_call' rfl (f3) (by simp only [go_sem, dueC, rightD, h1, h2, h2', h3, h3', h4]; exact Is.rfl') (by simp only [go_sem, dueC, rightD, h1, h2, h2', h3, h3', h4]; exact ⟨rfl, rfl⟩) ?_ | refine aops_nil (d_end ?_) | refine aops_nil ?_ | refine awp_seq ?_ | refine g_text ?_ | refine g_draw Tryd.mixed ?_ | refine awp_block ?_ | refine awp_skip ?_ | (refine awp_exit ?_; simp only [thenA, blockA, ↓reduceIte, Nat.reduceEqDiff, reduceCtorEq]) | refine awp_yes' (by simp only [go_sem, dueC, rightD, h1, h2, h2', h3, h3', h4]; exact Is.rfl') ?_ | refine awp_no' (by simp only [go_sem, dueC, rightD, h1, h2, h2', h3, h3', h4]; exact Is.rfl') ?_)
          (refine awp_ret ?_; show (resRd _ _ _).run _ = some _; simp only [go_sem, dueC, rightD, h1, h2, h2', h3, h3', h4])
  · have h1 : (decide (0 ≤ t) && decide (t ≤ 1099511627776)) = false := by simpa using h1
    refine con_of_body Tryd.func27 rfl Tryd.call27 (by rw [Tryd.ntmps27]; simp) ?_
    rw [Tryd.ntmps27, Tryd.results27]
    repeat (first | refine aops_op' rfl (by simp only [go_sem, dueC, rightD, h1, gt_e1]; exact ⟨rfl, rfl⟩) ?_ | refine g_run ?_ | refine g_off ?_ | refine aops_call' rfl (f1) (by simp only [go_sem, dueC, rightD, h1, gt_e1]; exact Is.rfl') (by simp only [go_sem, dueC, rightD, h1, gt_e1]; exact ⟨rfl, rfl⟩) ?_ | refine aops_call' rfl (f2) (by simp only [go_sem, dueC, rightD, h1, gt_e1]; exact Is.rfl') (by simp only [go_sem, dueC, rightD, h1, gt_e1]; exact ⟨rfl, rfl⟩) ?_ | refine aops_call' rfl (f3) (by simp only [go_sem, dueC, rightD, h1, gt_e1]; exact Is.rfl') (by simp only [go_sem, dueC, rightD, h1, gt_e1]; exact ⟨rfl, rfl⟩) ?_ | refine aops_nil (d_end ?_) | refine aops_nil ?_ | refine awp_seq ?_ | refine g_text ?_ | refine g_draw Tryd.mixed ?_ | refine awp_block ?_ | refine awp_skip ?_ | (refine awp_exit ?_; simp only [thenA, blockA, ↓reduceIte, Nat.reduceEqDiff, reduceCtorEq]) | refine awp_yes' (by simp only [go_sem, dueC, rightD, h1, gt_e1]; exact Is.rfl') ?_ | refine awp_no' (by simp only [go_sem, dueC, rightD, h1, gt_e1]; exact Is.rfl') ?_)
    (refine awp_ret ?_; show (resRd _ _ _).run _ = some _; simp only [go_sem, dueC, rightD, h1, gt_e1])
theorem rright_con (env : Env) (d : Due) : Con Tryd.prog env 43 [.agg (dueC d)] (B (rightD d)) := by
  obtain ⟨t, n, s⟩ := d
  have f1 := w_name_con env s
  by_cases h1 : 0 ≤ t
  · by_cases h2 : t ≤ 1099511627776
    · by_cases h3 : 0 ≤ n
      · by_cases h4 : n ≤ 2147483647
        · refine con_of_body Tryd.func43 rfl Tryd.call43 (by rw [Tryd.ntmps43]; simp) ?_
          rw [Tryd.ntmps43, Tryd.results43]
          repeat (first | refine aops_op' rfl (by simp only [go_sem, dueC, rightD, h1, h2, h3, h4]; exact ⟨rfl, rfl⟩) ?_ | refine g_run ?_ | refine g_off ?_ | refine aops_call' rfl (f1) (by simp only [go_sem, dueC, rightD, h1, h2, h3, h4]; exact Is.rfl') (by simp only [go_sem, dueC, rightD, h1, h2, h3, h4]; exact ⟨rfl, rfl⟩) ?_ | refine aops_nil (d_end ?_) | refine aops_nil ?_ | refine awp_seq ?_ | refine g_text ?_ | refine g_draw Tryd.mixed ?_ | refine awp_block ?_ | refine awp_skip ?_ | (refine awp_exit ?_; simp only [thenA, blockA, ↓reduceIte, Nat.reduceEqDiff, reduceCtorEq]) | refine awp_yes' (by simp only [go_sem, dueC, rightD, h1, h2, h3, h4]; exact Is.rfl') ?_ | refine awp_no' (by simp only [go_sem, dueC, rightD, h1, h2, h3, h4]; exact Is.rfl') ?_)
          (refine awp_ret ?_; show (resRd _ _ _).run _ = some _; simp only [go_sem, dueC, rightD, h1, h2, h3, h4])
        · refine con_of_body Tryd.func43 rfl Tryd.call43 (by rw [Tryd.ntmps43]; simp) ?_
          rw [Tryd.ntmps43, Tryd.results43]
          repeat (first | refine aops_op' rfl (by simp only [go_sem, dueC, rightD, h1, h2, h3, h4]; exact ⟨rfl, rfl⟩) ?_ | refine g_run ?_ | refine g_off ?_ | refine aops_call' rfl (f1) (by simp only [go_sem, dueC, rightD, h1, h2, h3, h4]; exact Is.rfl') (by simp only [go_sem, dueC, rightD, h1, h2, h3, h4]; exact ⟨rfl, rfl⟩) ?_ | refine aops_nil (d_end ?_) | refine aops_nil ?_ | refine awp_seq ?_ | refine g_text ?_ | refine g_draw Tryd.mixed ?_ | refine awp_block ?_ | refine awp_skip ?_ | (refine awp_exit ?_; simp only [thenA, blockA, ↓reduceIte, Nat.reduceEqDiff, reduceCtorEq]) | refine awp_yes' (by simp only [go_sem, dueC, rightD, h1, h2, h3, h4]; exact Is.rfl') ?_ | refine awp_no' (by simp only [go_sem, dueC, rightD, h1, h2, h3, h4]; exact Is.rfl') ?_)
          (refine awp_ret ?_; show (resRd _ _ _).run _ = some _; simp only [go_sem, dueC, rightD, h1, h2, h3, h4])
      · refine con_of_body Tryd.func43 rfl Tryd.call43 (by rw [Tryd.ntmps43]; simp) ?_
        rw [Tryd.ntmps43, Tryd.results43]
        repeat (first | refine aops_op' rfl (by simp only [go_sem, dueC, rightD, h1, h2, h3]; exact ⟨rfl, rfl⟩) ?_ | refine g_run ?_ | refine g_off ?_ | refine aops_call' rfl (f1) (by simp only [go_sem, dueC, rightD, h1, h2, h3]; exact Is.rfl') (by simp only [go_sem, dueC, rightD, h1, h2, h3]; exact ⟨rfl, rfl⟩) ?_ | refine aops_nil (d_end ?_) | refine aops_nil ?_ | refine awp_seq ?_ | refine g_text ?_ | refine g_draw Tryd.mixed ?_ | refine awp_block ?_ | refine awp_skip ?_ | (refine awp_exit ?_; simp only [thenA, blockA, ↓reduceIte, Nat.reduceEqDiff, reduceCtorEq]) | refine awp_yes' (by simp only [go_sem, dueC, rightD, h1, h2, h3]; exact Is.rfl') ?_ | refine awp_no' (by simp only [go_sem, dueC, rightD, h1, h2, h3]; exact Is.rfl') ?_)
        (refine awp_ret ?_; show (resRd _ _ _).run _ = some _; simp only [go_sem, dueC, rightD, h1, h2, h3])
    · refine con_of_body Tryd.func43 rfl Tryd.call43 (by rw [Tryd.ntmps43]; simp) ?_
      rw [Tryd.ntmps43, Tryd.results43]
      repeat (first | refine aops_op' rfl (by simp only [go_sem, dueC, rightD, h1, h2]; exact ⟨rfl, rfl⟩) ?_ | refine g_run ?_ | refine g_off ?_ | refine aops_call' rfl (f1) (by simp only [go_sem, dueC, rightD, h1, h2]; exact Is.rfl') (by simp only [go_sem, dueC, rightD, h1, h2]; exact ⟨rfl, rfl⟩) ?_ | refine aops_nil (d_end ?_) | refine aops_nil ?_ | refine awp_seq ?_ | refine g_text ?_ | refine g_draw Tryd.mixed ?_ | refine awp_block ?_ | refine awp_skip ?_ | (refine awp_exit ?_; simp only [thenA, blockA, ↓reduceIte, Nat.reduceEqDiff, reduceCtorEq]) | refine awp_yes' (by simp only [go_sem, dueC, rightD, h1, h2]; exact Is.rfl') ?_ | refine awp_no' (by simp only [go_sem, dueC, rightD, h1, h2]; exact Is.rfl') ?_)
      (refine awp_ret ?_; show (resRd _ _ _).run _ = some _; simp only [go_sem, dueC, rightD, h1, h2])
  · refine con_of_body Tryd.func43 rfl Tryd.call43 (by rw [Tryd.ntmps43]; simp) ?_
    rw [Tryd.ntmps43, Tryd.results43]
    repeat (first | refine aops_op' rfl (by simp only [go_sem, dueC, rightD, h1]; exact ⟨rfl, rfl⟩) ?_ | refine g_run ?_ | refine g_off ?_ | refine aops_call' rfl (f1) (by simp only [go_sem, dueC, rightD, h1]; exact Is.rfl') (by simp only [go_sem, dueC, rightD, h1]; exact ⟨rfl, rfl⟩) ?_ | refine aops_nil (d_end ?_) | refine aops_nil ?_ | refine awp_seq ?_ | refine g_text ?_ | refine g_draw Tryd.mixed ?_ | refine awp_block ?_ | refine awp_skip ?_ | (refine awp_exit ?_; simp only [thenA, blockA, ↓reduceIte, Nat.reduceEqDiff, reduceCtorEq]) | refine awp_yes' (by simp only [go_sem, dueC, rightD, h1]; exact Is.rfl') ?_ | refine awp_no' (by simp only [go_sem, dueC, rightD, h1]; exact Is.rfl') ?_)
    (refine awp_ret ?_; show (resRd _ _ _).run _ = some _; simp only [go_sem, dueC, rightD, h1])
theorem tkey_con (env : Env) (d : Due) : Con Tryd.prog env 29 [.agg (dueC d)] (.agg (keyC d)) := by
  refine con_of_body Tryd.func29 rfl Tryd.call29 (by rw [Tryd.ntmps29]; simp) ?_
  rw [Tryd.ntmps29, Tryd.results29]
  repeat (first | refine aops_op' rfl (by simp only [go_sem, dueC, keyC]; exact ⟨rfl, rfl⟩) ?_ | refine g_run ?_ | refine g_off ?_ | refine aops_nil (d_end ?_) | refine aops_nil ?_ | refine awp_seq ?_ | refine g_text ?_ | refine g_draw Tryd.mixed ?_ | refine awp_block ?_ | refine awp_skip ?_ | (refine awp_exit ?_; simp only [thenA, blockA, ↓reduceIte, Nat.reduceEqDiff, reduceCtorEq]) | refine awp_yes' (by simp only [go_sem, dueC, keyC]; exact Is.rfl') ?_ | refine awp_no' (by simp only [go_sem, dueC, keyC]; exact Is.rfl') ?_)
  (refine awp_ret ?_; show (resRd _ _ _).run _ = some _; simp only [go_sem, dueC, keyC])
end Go.Proofs.YthepkabfiooabaaDoor
