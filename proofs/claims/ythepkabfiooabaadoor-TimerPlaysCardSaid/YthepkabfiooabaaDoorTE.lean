/- The law TimerOrders: plain part, awake, the walk. -/
import Derived.Test.YthepkabfiooabaaDoorTD
import Derived.Test.YthepkabfiooabaaDoorI2
set_option linter.unusedSimpArgs false
namespace Go.Proofs.YthepkabfiooabaaDoor
open Go.RowKit
set_option maxRecDepth 100000
set_option maxHeartbeats 4000000
attribute [local go_sem_proc ↓] reduceIte
attribute [local go_sem_proc] reduceCtorEq Nat.reduceBEq Nat.reduceAdd Nat.reduceSub Nat.reduceEqDiff Nat.reduceLT Nat.reduceLeDiff Nat.reduceMul Int.reduceToNat Int.reduceBEq Int.reduceBNe Int.reduceEq Int.reduceLT Int.reduceLE
attribute [local go_sem] ev_clear ev_makeFunc funcRd evClear List.isEmpty_cons Array.isEmpty_iff ev_makeMap ev_lookup ev_mapUpdate ev_delete evMakeMap evLookup evMapUpdate evDelete pureOf keyCmp mfind oneCells Rd.map AV.bare AV.bare.bareL AV.ofVal resRd resOne resAll HoldF HoldR Takes thenA blockA ev_move ev_assign ev_pick ev_alloc ev_box ev_build ev_buildSlice ev_load ev_store ev_binOp ev_unOp ev_convert ev_iface ev_make ev_slice ev_fieldAddr ev_field ev_indexAddr ev_index ev_extract ev_len ev_append ev_min ev_max evMin evMax gt_tmp gt_int gt_bool gt_str gt_nilS gt_nilP gt_nilI pickRd allocRd buildRd sliceRd loadRd unRd ifaceRd exRd val optRd callRd seen AV.plain adopt fzArgs Rd.run AV.asCells newBox runL Comes' Rd.row Rd.bind Out.app apps Eff.app St.renew St.setRow St.show St.put St.init upd evStore evBinR evBin eqFs eqCell evConv evSeq evLen evIndexAddr evFieldAddr evField evIndex bound evSlice evSliceF evAppend evMake loadOf fillAV fillEs fzParts fz fzCell fzCells shows isConstOp splice wrs wes Value.oneCell' List.getD_cons_zero List.getD_cons_succ List.getD_nil List.length_cons List.length_nil List.map_cons List.map_nil List.nil_append List.cons_append List.all_cons List.all_nil List.getElem?_cons_zero List.getElem?_cons_succ List.set_cons_zero List.set_cons_succ List.take_succ_cons List.take_zero List.drop_succ_cons List.drop_zero List.take_nil List.drop_nil List.replicate_succ List.replicate_zero Bool.and_true Bool.true_and Bool.and_self and_self true_and and_true Nat.zero_add Nat.add_zero Option.some.injEq Nat.zero_lt_succ Bool.not_true Bool.not_false ne_eq not_true_eq_false not_false_eq_true Option.map_some Option.map_none List.toList_toArray head headF headR List.length_map Int.toNat_natCast Int.natCast_nonneg List.getElem?_map decide_true decide_false Bool.false_eq_true if_true if_false Bool.or_self Bool.or_true Bool.true_or Bool.false_or Bool.or_false Bool.and_false Bool.false_and List.flatten_cons List.flatten_nil List.append_nil nat0 or_self or_false false_or or_true true_or and_false false_and List.length_append List.isEmpty_nil bne_self_eq_false beq_self_eq_true fits_small strL_l bytesOf_map wants Int.cast_ofNat_Int gt_iff_lt ge_iff_le
attribute [local go_sem ←] List.map_drop List.map_take
attribute [local go_sem] nilRd ev_nilCheck tmpsAre resI resIs cellRd HoldI toRL toKL gin gout nout vin grownR lay AV.ren AV.ren.renL Row.ren headR Option.bind_some Option.bind_none Option.isSome_some Option.isSome_none Option.getD_some Bool.true_eq_false PreOk PostOk EscOk wrs wes List.cons.injEq Prod.mk.injEq forall_const

def sameD (a b : Due) : Bool := a.at_ == b.at_ && (a.inst == b.inst && (a.name == b.name))
theorem due_three (a b : Due) : (dueLess a b = true ∧ dueLess b a = false ∧ sameD a b = false) ∨ (dueLess a b = false ∧ dueLess b a = true ∧ sameD a b = false) ∨ (dueLess a b = false ∧ dueLess b a = false ∧ sameD a b = true) := by
  obtain ⟨a1, a2, a3⟩ := a
  obtain ⟨b1, b2, b3⟩ := b
  by_cases h1 : a1 = b1
  · subst h1
    by_cases h2 : a2 = b2
    · subst h2
      simp only [dueLess, sameD, if_true, beq_self_eq_true, Bool.true_and]
      cases h3 : Op.bytesLess a3 b3
      · cases h4 : Op.bytesLess b3 a3
        · have := bl_total h3 h4
          subst this
          simp
        · have : a3 ≠ b3 := fun e => by subst e; rw [h3] at h4; cases h4
          simp [this]
      · have h4 := bl_asymm h3
        have : a3 ≠ b3 := fun e => by subst e; rw [h3] at h4; cases h4
        simp [h4, this]
    · have h2' : ¬ b2 = a2 := fun e => h2 e.symm
      simp only [dueLess, sameD, if_true, h2, h2', if_false, beq_self_eq_true, Bool.true_and]
      rcases Int.lt_or_lt_of_ne h2 with h | h
      · left; simp [h, h2]; omega
      · right; left; simp [h, h2]; omega
  · have h1' : ¬ b1 = a1 := fun e => h1 e.symm
    simp only [dueLess, sameD, h1, h1', if_false]
    rcases Int.lt_or_lt_of_ne h1 with h | h
    · left; simp [h, h1]; omega
    · right; left; simp [h, h1]; omega
theorem due_trans {a b c : Due} (h1 : dueLess a b = true) (h2 : dueLess b c = true) : dueLess a c = true := by
  obtain ⟨a1, a2, a3⟩ := a
  obtain ⟨b1, b2, b3⟩ := b
  obtain ⟨c1, c2, c3⟩ := c
  simp only [dueLess] at *
  split at h1
  · rename_i e1
    subst e1
    split at h2
    · rename_i e2
      subst e2
      rw [if_pos rfl]
      split at h1
      · rename_i e3
        subst e3
        split at h2
        · rename_i e4
          subst e4
          rw [if_pos rfl]
          exact bl_trans h1 h2
        · rename_i e4
          rw [if_neg e4]
          exact h2
      · rename_i e3
        have h1 := of_decide_eq_true h1
        split at h2
        · rename_i e4
          subst e4
          rw [if_neg e3]
          exact decide_eq_true h1
        · have h2 := of_decide_eq_true h2
          rw [if_neg (by omega)]
          exact decide_eq_true (by omega)
    · rename_i e2
      rw [if_neg e2]
      exact h2
  · rename_i e1
    have h1 := of_decide_eq_true h1
    split at h2
    · rename_i e2
      subst e2
      rw [if_neg e1]
      exact decide_eq_true h1
    · have h2 := of_decide_eq_true h2
      rw [if_neg (by omega)]
      exact decide_eq_true (by omega)

def dA : Due := ⟨5, 1, [98]⟩
def dB : Due := ⟨4, 2, [97]⟩
theorem dB_dA : dueLess dB dA = true := by decide
def mA : Mp := [((1, [98]), 0)]
def mB : Mp := swapM [((1, [98]), 0), ((2, [97]), 1)] 1 0 dB dA
theorem up_first : upS [dA] mA 0 = ([dA], mA) := upS_zero _ _
theorem up_second : upS [dA, dB] [((1, [98]), 0), ((2, [97]), 1)] 1 = ([dB, dA], mB) := by
  rw [upS_go (x := dB) (y := dA) (by omega) rfl rfl dB_dA, upS_zero]
  rfl
theorem awake33_con (ad : Nat → Addr) (mo : More) : Con Tryd.prog (errEnv ad mo) 14 [] (B true) := by
  have f0 := tnew_con (errEnv ad mo)
  have f1 := tput_new ad mo dA [] [] (by decide) (by decide) rfl (by decide)
  have f2 := tput_new ad mo dB [dA] mA (by decide) (by decide) rfl (by decide)
  have f3 := tfirst_con (errEnv ad mo) dB [dA] mB
  have f4 := tlen_con (errEnv ad mo) [dB, dA] mB
  rw [show upS ([] ++ [dA]) ([] ++ [((dA.inst, dA.name), (([] : List Due).length : Int))]) ([] : List Due).length = ([dA], mA) from up_first] at f1
  rw [show upS ([dA] ++ [dB]) (mA ++ [((dB.inst, dB.name), (([dA] : List Due).length : Int))]) ([dA] : List Due).length = ([dB, dA], mB) from up_second] at f2
  refine con_of_body Tryd.func14 rfl Tryd.call14 (by rw [Tryd.ntmps14]; simp) ?_
  rw [Tryd.ntmps14, Tryd.results14]
  repeat (first | refine aops_op' rfl (by simp only [go_sem]; exact ⟨rfl, rfl⟩) ?_ | refine g_run ?_ | refine g_off ?_ | refine aops_nil (d_end ?_) | refine aops_nil ?_ | refine awp_seq ?_ | refine g_text ?_ | refine g_draw Tryd.mixed ?_ | refine awp_block ?_ | refine awp_skip ?_ | (refine awp_exit ?_; simp only [thenA, blockA, ↓reduceIte, Nat.reduceEqDiff, reduceCtorEq]) | refine awp_yes' (by simp only [go_sem]; exact Is.rfl') ?_ | refine awp_no' (by simp only [go_sem]; exact Is.rfl') ?_)
  refine aops_inl [(3, 1000), (1001, 1001), (1, 1002)] rfl f0 (by decide) (by decide) (by simp only [go_sem] <;> rfl) (by simp only [go_sem, and_self] <;> trivial) (by simp only [go_sem, and_self] <;> trivial) (by intro o; simp only [go_sem, behind, and_self] <;> trivial) (by intro o; simp only [go_sem] <;> rfl) (by simp only [go_sem, behind]; exact Is.rfl') (by simp only [go_sem, behind]; exact Is.rfl') ?_
  repeat (first | refine aops_op' rfl (by simp only [go_sem, AG, dueC, dA, dB, mA]; exact ⟨rfl, rfl⟩) ?_ | refine g_run ?_ | refine g_off ?_ | refine aops_nil (d_end ?_) | refine aops_nil ?_ | refine awp_seq ?_ | refine g_text ?_ | refine g_draw Tryd.mixed ?_ | refine awp_block ?_ | refine awp_skip ?_ | (refine awp_exit ?_; simp only [thenA, blockA, ↓reduceIte, Nat.reduceEqDiff, reduceCtorEq]) | refine awp_yes' (by simp only [go_sem, AG, dueC, dA, dB, mA]; exact Is.rfl') ?_ | refine awp_no' (by simp only [go_sem, AG, dueC, dA, dB, mA]; exact Is.rfl') ?_)
  refine aops_inl [(1000, 1000), (1001, 1001), (1002, 1002)] rfl (f1) (by decide) (by decide) (by simp only [go_sem, AG, dueC, dA, dB, mA] <;> rfl) (by simp only [go_sem, AG, dueC, dA, dB, mA, and_self] <;> trivial) (by simp only [go_sem, AG, dueC, dA, dB, mA, and_self] <;> trivial) (by intro o; simp only [go_sem, AG, dueC, dA, dB, mA, behind, and_self] <;> trivial) (by intro o; simp only [go_sem, AG, dueC, dA, dB, mA] <;> rfl) (by simp only [go_sem, AG, dueC, dA, dB, mA, behind]; exact Is.rfl') (by simp only [go_sem, AG, dueC, dA, dB, mA, behind]; exact Is.rfl') ?_
  repeat (first | refine aops_op' rfl (by simp only [go_sem, AG, dueC, dA, dB, mA]; exact ⟨rfl, rfl⟩) ?_ | refine g_run ?_ | refine g_off ?_ | refine aops_nil (d_end ?_) | refine aops_nil ?_ | refine awp_seq ?_ | refine g_text ?_ | refine g_draw Tryd.mixed ?_ | refine awp_block ?_ | refine awp_skip ?_ | (refine awp_exit ?_; simp only [thenA, blockA, ↓reduceIte, Nat.reduceEqDiff, reduceCtorEq]) | refine awp_yes' (by simp only [go_sem, AG, dueC, dA, dB, mA]; exact Is.rfl') ?_ | refine awp_no' (by simp only [go_sem, AG, dueC, dA, dB, mA]; exact Is.rfl') ?_)
  refine aops_inl [(1000, 1000), (1001, 1001), (1002, 1002)] rfl (f2) (by decide) (by decide) (by simp only [go_sem, AG, dueC, dA, dB, mA] <;> rfl) (by simp only [go_sem, AG, dueC, dA, dB, mA, and_self] <;> trivial) (by simp only [go_sem, AG, dueC, dA, dB, mA, and_self] <;> trivial) (by intro o; simp only [go_sem, AG, dueC, dA, dB, mA, behind, and_self] <;> trivial) (by intro o; simp only [go_sem, AG, dueC, dA, dB, mA] <;> rfl) (by simp only [go_sem, AG, dueC, dA, dB, mA, behind]; exact Is.rfl') (by simp only [go_sem, AG, dueC, dA, dB, mA, behind]; exact Is.rfl') ?_
  repeat (first | refine aops_op' rfl (by simp only [go_sem, AG, dueC, dA, dB, mA]; exact ⟨rfl, rfl⟩) ?_ | refine g_run ?_ | refine g_off ?_ | refine aops_nil (d_end ?_) | refine aops_nil ?_ | refine awp_seq ?_ | refine g_text ?_ | refine g_draw Tryd.mixed ?_ | refine awp_block ?_ | refine awp_skip ?_ | (refine awp_exit ?_; simp only [thenA, blockA, ↓reduceIte, Nat.reduceEqDiff, reduceCtorEq]) | refine awp_yes' (by simp only [go_sem, AG, dueC, dA, dB, mA]; exact Is.rfl') ?_ | refine awp_no' (by simp only [go_sem, AG, dueC, dA, dB, mA]; exact Is.rfl') ?_)
  refine aops_inl [(1000, 1000), (1001, 1001), (1002, 1002)] rfl (f3) (by decide) (by decide) (by simp only [go_sem, AG, dueC, dA, dB, mA] <;> rfl) (by simp only [go_sem, AG, dueC, dA, dB, mA, and_self] <;> trivial) (by simp only [go_sem, AG, dueC, dA, dB, mA, and_self] <;> trivial) (by intro o; simp only [go_sem, AG, dueC, dA, dB, mA, behind, and_self] <;> trivial) (by intro o; simp only [go_sem, AG, dueC, dA, dB, mA] <;> rfl) (by simp only [go_sem, AG, dueC, dA, dB, mA, behind]; exact Is.rfl') (by simp only [go_sem, AG, dueC, dA, dB, mA, behind]; exact Is.rfl') ?_
  repeat (first | refine aops_op' rfl (by simp only [go_sem, AG, dueC, dA, dB, mA]; exact ⟨rfl, rfl⟩) ?_ | refine g_run ?_ | refine g_off ?_ | refine aops_nil (d_end ?_) | refine aops_nil ?_ | refine awp_seq ?_ | refine g_text ?_ | refine g_draw Tryd.mixed ?_ | refine awp_block ?_ | refine awp_skip ?_ | (refine awp_exit ?_; simp only [thenA, blockA, ↓reduceIte, Nat.reduceEqDiff, reduceCtorEq]) | refine awp_yes' (by simp only [go_sem, AG, dueC, dA, dB, mA]; exact Is.rfl') ?_ | refine awp_no' (by simp only [go_sem, AG, dueC, dA, dB, mA]; exact Is.rfl') ?_)
  refine aops_inl [(1000, 1000), (1001, 1001), (1002, 1002)] rfl (f4) (by decide) (by decide) (by simp only [go_sem, AG, dueC, dA, dB, mA] <;> rfl) (by simp only [go_sem, AG, dueC, dA, dB, mA, and_self] <;> trivial) (by simp only [go_sem, AG, dueC, dA, dB, mA, and_self] <;> trivial) (by intro o; simp only [go_sem, AG, dueC, dA, dB, mA, behind, and_self] <;> trivial) (by intro o; simp only [go_sem, AG, dueC, dA, dB, mA] <;> rfl) (by simp only [go_sem, AG, dueC, dA, dB, mA, behind]; exact Is.rfl') (by simp only [go_sem, AG, dueC, dA, dB, mA, behind]; exact Is.rfl') ?_
  repeat (first | refine aops_op' rfl (by simp only [go_sem, AG, dueC, dA, dB, mA]; exact ⟨rfl, rfl⟩) ?_ | refine g_run ?_ | refine g_off ?_ | refine aops_nil (d_end ?_) | refine aops_nil ?_ | refine awp_seq ?_ | refine g_text ?_ | refine g_draw Tryd.mixed ?_ | refine awp_block ?_ | refine awp_skip ?_ | (refine awp_exit ?_; simp only [thenA, blockA, ↓reduceIte, Nat.reduceEqDiff, reduceCtorEq]) | refine awp_yes' (by simp only [go_sem, AG, dueC, dA, dB, mA]; exact Is.rfl') ?_ | refine awp_no' (by simp only [go_sem, AG, dueC, dA, dB, mA]; exact Is.rfl') ?_)
  (refine awp_ret ?_; show (resRd _ _ _).run _ = some _; simp only [go_sem, AG, dueC, dA, dB, mA])
end Go.Proofs.YthepkabfiooabaaDoor
