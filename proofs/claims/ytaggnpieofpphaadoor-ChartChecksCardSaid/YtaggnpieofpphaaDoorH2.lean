/- Contracts of what charts are told by: names, numbers, expressions, kinds: by the walk without memory. -/
import Derived.Test.YtaggnpieofpphaaDoorE1
import Derived.Test.YtaggnpieofpphaaDoorCN
import Derived.Test.YtaggnpieofpphaaDoorHP
set_option linter.unusedSimpArgs false
namespace Go.Proofs.YtaggnpieofpphaaDoor
open Go.RowKit
set_option maxRecDepth 100000
set_option maxHeartbeats 1000000
attribute [local go_sem_proc] reduceIte reduceCtorEq Nat.reduceAdd Nat.reduceSub Nat.reduceEqDiff Nat.reduceLT Nat.reduceLeDiff Nat.reduceMul Int.reduceToNat Int.reduceBEq Int.reduceBNe Int.reduceEq Int.reduceLT Int.reduceLE
attribute [local go_sem] resRd resOne resAll HoldF HoldR Takes thenA blockA ev_move ev_assign ev_pick ev_alloc ev_box ev_build ev_buildSlice ev_load ev_store ev_binOp ev_unOp ev_convert ev_iface ev_make ev_slice ev_fieldAddr ev_field ev_indexAddr ev_index ev_extract ev_len ev_append ev_min ev_max evMin evMax gt_tmp gt_int gt_bool gt_str gt_nilS gt_nilP gt_nilI pickRd allocRd buildRd sliceRd loadRd unRd ifaceRd exRd val optRd callRd seen AV.plain adopt fzArgs Rd.run AV.asCells newBox runL Comes' Rd.row Rd.bind Out.app apps Eff.app St.renew St.setRow St.show St.put St.init upd evStore evBin eqFs eqCell evConv evSeq evLen evIndexAddr evFieldAddr evField evIndex bound evSlice evAppend evMake loadOf fillAV fillEs fzParts fz fzCell fzCells shows isConstOp splice wrs wes Value.oneCell' List.getD_cons_zero List.getD_cons_succ List.getD_nil List.length_cons List.length_nil List.map_cons List.map_nil List.nil_append List.cons_append List.all_cons List.all_nil List.getElem?_cons_zero List.getElem?_cons_succ List.set_cons_zero List.set_cons_succ List.take_succ_cons List.take_zero List.drop_succ_cons List.drop_zero List.take_nil List.drop_nil List.replicate_succ List.replicate_zero Bool.and_true Bool.true_and Bool.and_self and_self true_and and_true Nat.zero_add Nat.add_zero Option.some.injEq Nat.zero_lt_succ Bool.not_true Bool.not_false ne_eq not_true_eq_false not_false_eq_true Option.map_some Option.map_none List.toList_toArray head headF headR List.length_map Int.toNat_natCast Int.natCast_nonneg List.getElem?_map decide_true decide_false Bool.false_eq_true if_true if_false Bool.or_self Bool.or_true Bool.true_or Bool.false_or Bool.or_false Bool.and_false Bool.false_and List.flatten_cons List.flatten_nil List.append_nil nat0 or_self or_false false_or or_true true_or and_false false_and List.length_append List.isEmpty_nil bne_self_eq_false beq_self_eq_true fits_small strL_l bytesOf_map wants Int.cast_ofNat_Int gt_iff_lt ge_iff_le
attribute [local go_sem ←] List.map_drop List.map_take

theorem tokName_con (env : Env) (l : List UInt8) (hl : l.length ≤ 9223372036854775807) : Con Tryd.prog env 26 [Sg l] (B (nameB l)) :=
  con_lit Tryd.call26 fun w S vs hE hlen hv => by
    match vs, hlen with
    | [v], _ =>
      obtain rfl := (hv 0 v _ rfl rfl).lit_inv
      refine (name_any l hl w).mono ?_
      rintro e w' ⟨rfl, rfl⟩
      exact ⟨rfl, Below.refl _ _⟩

def fitsB (n : Int) : Bool := decide (-2147483647 ≤ n) && decide (n ≤ 2147483647)
theorem vFits_con (env : Env) (n : Int) : Con Tryd.prog env 64 [I n] (B (fitsB n)) := by
  unfold fitsB
  refine con_of_body Tryd.func64 rfl Tryd.call64 (by rw [Tryd.ntmps64]; simp) ?_
  rw [Tryd.ntmps64, Tryd.results64]
  by_cases h1 : -2147483647 ≤ n <;> by_cases h2 : n ≤ 2147483647 <;>
  · repeat (first | refine aops_op' rfl (by simp only [go_sem, h1, h2]; exact ⟨rfl, rfl⟩) ?_ | refine g_run ?_ | refine g_off ?_ | refine aops_nil (d_end ?_) | refine aops_nil ?_ | refine awp_seq ?_ | refine g_text ?_ | refine g_draw Tryd.mixed ?_ | refine awp_block ?_ | refine awp_skip ?_ | (refine awp_exit ?_; simp only [thenA, blockA, ↓reduceIte, Nat.reduceEqDiff, reduceCtorEq]) | refine awp_yes' (by simp only [go_sem, h1, h2]; exact Is.rfl') ?_ | refine awp_no' (by simp only [go_sem, h1, h2]; exact Is.rfl') ?_)
    (refine awp_ret ?_; show (resRd _ _ _).run _ = some _; simp only [go_sem, h1, h2])
theorem rFits_con (env : Env) (n : Int) : Con Tryd.prog env 74 [I n] (B (fitsB n)) := by
  unfold fitsB
  refine con_of_body Tryd.func74 rfl Tryd.call74 (by rw [Tryd.ntmps74]; simp) ?_
  rw [Tryd.ntmps74, Tryd.results74]
  by_cases h1 : -2147483647 ≤ n <;> by_cases h2 : n ≤ 2147483647 <;>
  · repeat (first | refine aops_op' rfl (by simp only [go_sem, h1, h2]; exact ⟨rfl, rfl⟩) ?_ | refine g_run ?_ | refine g_off ?_ | refine aops_nil (d_end ?_) | refine aops_nil ?_ | refine awp_seq ?_ | refine g_text ?_ | refine g_draw Tryd.mixed ?_ | refine awp_block ?_ | refine awp_skip ?_ | (refine awp_exit ?_; simp only [thenA, blockA, ↓reduceIte, Nat.reduceEqDiff, reduceCtorEq]) | refine awp_yes' (by simp only [go_sem, h1, h2]; exact Is.rfl') ?_ | refine awp_no' (by simp only [go_sem, h1, h2]; exact Is.rfl') ?_)
    (refine awp_ret ?_; show (resRd _ _ _).run _ = some _; simp only [go_sem, h1, h2])

/-! Expressions' kinds -/
theorem operands_cases {p : Int → Int → Prop} (h1 : ∀ k : Int, 1 ≤ k → k ≤ 4 → ¬ k < 1 → ¬ 19 < k → ¬ 4 < k → p k 0) (h5 : p 5 1) (h6 : p 6 1)
    (h7 : ∀ k : Int, 1 ≤ k → ¬ k ≤ 4 → (k == 5) = false → (k == 6) = false → 7 ≤ k → k ≤ 19 → ¬ k < 1 → ¬ 19 < k → ¬ k ≤ 6 → p k 2)
    (h8 : ∀ k : Int, ¬ 1 ≤ k → (k == 5) = false → (k == 6) = false → ¬ 7 ≤ k → k < 1 → p k (-1))
    (h9 : ∀ k : Int, 1 ≤ k → ¬ k ≤ 4 → (k == 5) = false → (k == 6) = false → 7 ≤ k → ¬ k ≤ 19 → ¬ k < 1 → 19 < k → p k (-1)) (k : Int) : p k (operandsI k) := by
  have ne : ∀ a b : Int, a ≠ b → (a == b) = false := fun a b h => by simpa using h
  by_cases a : 1 ≤ k
  · by_cases b : k ≤ 4
    · rw [show operandsI k = 0 by unfold operandsI; rw [if_pos ⟨a, b⟩]]
      exact h1 k a b (by omega) (by omega) (by omega)
    · by_cases c : k = 5
      · subst c; exact h5
      · by_cases d : k = 6
        · subst d; exact h6
        · by_cases e : k ≤ 19
          · rw [show operandsI k = 2 by unfold operandsI; rw [if_neg (by omega), if_neg (by omega), if_pos (by omega)]]
            exact h7 k a b (ne _ _ c) (ne _ _ d) (by omega) e (by omega) (by omega) (by omega)
          · rw [show operandsI k = -1 by unfold operandsI; rw [if_neg (by omega), if_neg (by omega), if_neg (by omega)]]
            exact h9 k a b (ne _ _ c) (ne _ _ d) (by omega) e (by omega) (by omega)
  · rw [show operandsI k = -1 by unfold operandsI; rw [if_neg (by omega), if_neg (by omega), if_neg (by omega)]]
    exact h8 k a (ne _ _ (by omega)) (ne _ _ (by omega)) (by omega) (by omega)
theorem pOperands_con (env : Env) (k : Int) : Con Tryd.prog env 104 [I k] (I (operandsI k)) := by
  refine operands_cases (p := fun k r => Con Tryd.prog env 104 [I k] (I r)) ?_ ?_ ?_ ?_ ?_ ?_ k
  · intro k a1 a2 a3 a4 a5
    refine con_of_body Tryd.func104 rfl Tryd.call104 (by rw [Tryd.ntmps104]; simp) ?_
    rw [Tryd.ntmps104, Tryd.results104]
    repeat (first | refine aops_op' rfl (by simp only [go_sem, a1, a2, a3, a4, a5]; exact ⟨rfl, rfl⟩) ?_ | refine g_run ?_ | refine g_off ?_ | refine aops_nil (d_end ?_) | refine aops_nil ?_ | refine awp_seq ?_ | refine g_text ?_ | refine g_draw Tryd.mixed ?_ | refine awp_block ?_ | refine awp_skip ?_ | (refine awp_exit ?_; simp only [thenA, blockA, ↓reduceIte, Nat.reduceEqDiff, reduceCtorEq]) | refine awp_yes' (by simp only [go_sem, a1, a2, a3, a4, a5]; exact Is.rfl') ?_ | refine awp_no' (by simp only [go_sem, a1, a2, a3, a4, a5]; exact Is.rfl') ?_)
    (refine awp_ret ?_; show (resRd _ _ _).run _ = some _; simp only [go_sem, a1, a2, a3, a4, a5])
  · refine con_of_body Tryd.func104 rfl Tryd.call104 (by rw [Tryd.ntmps104]; simp) ?_
    rw [Tryd.ntmps104, Tryd.results104]
    repeat (first | refine aops_op' rfl (by simp only [go_sem]; exact ⟨rfl, rfl⟩) ?_ | refine g_run ?_ | refine g_off ?_ | refine aops_nil (d_end ?_) | refine aops_nil ?_ | refine awp_seq ?_ | refine g_text ?_ | refine g_draw Tryd.mixed ?_ | refine awp_block ?_ | refine awp_skip ?_ | (refine awp_exit ?_; simp only [thenA, blockA, ↓reduceIte, Nat.reduceEqDiff, reduceCtorEq]) | refine awp_yes' (by simp only [go_sem]; exact Is.rfl') ?_ | refine awp_no' (by simp only [go_sem]; exact Is.rfl') ?_)
    (refine awp_ret ?_; show (resRd _ _ _).run _ = some _; simp only [go_sem])
  · refine con_of_body Tryd.func104 rfl Tryd.call104 (by rw [Tryd.ntmps104]; simp) ?_
    rw [Tryd.ntmps104, Tryd.results104]
    repeat (first | refine aops_op' rfl (by simp only [go_sem]; exact ⟨rfl, rfl⟩) ?_ | refine g_run ?_ | refine g_off ?_ | refine aops_nil (d_end ?_) | refine aops_nil ?_ | refine awp_seq ?_ | refine g_text ?_ | refine g_draw Tryd.mixed ?_ | refine awp_block ?_ | refine awp_skip ?_ | (refine awp_exit ?_; simp only [thenA, blockA, ↓reduceIte, Nat.reduceEqDiff, reduceCtorEq]) | refine awp_yes' (by simp only [go_sem]; exact Is.rfl') ?_ | refine awp_no' (by simp only [go_sem]; exact Is.rfl') ?_)
    (refine awp_ret ?_; show (resRd _ _ _).run _ = some _; simp only [go_sem])
  · intro k a1 a2 a3 a4 a5 a6 a7 a8 a9
    refine con_of_body Tryd.func104 rfl Tryd.call104 (by rw [Tryd.ntmps104]; simp) ?_
    rw [Tryd.ntmps104, Tryd.results104]
    repeat (first | refine aops_op' rfl (by simp only [go_sem, a1, a2, a3, a4, a5, a6, a7, a8, a9]; exact ⟨rfl, rfl⟩) ?_ | refine g_run ?_ | refine g_off ?_ | refine aops_nil (d_end ?_) | refine aops_nil ?_ | refine awp_seq ?_ | refine g_text ?_ | refine g_draw Tryd.mixed ?_ | refine awp_block ?_ | refine awp_skip ?_ | (refine awp_exit ?_; simp only [thenA, blockA, ↓reduceIte, Nat.reduceEqDiff, reduceCtorEq]) | refine awp_yes' (by simp only [go_sem, a1, a2, a3, a4, a5, a6, a7, a8, a9]; exact Is.rfl') ?_ | refine awp_no' (by simp only [go_sem, a1, a2, a3, a4, a5, a6, a7, a8, a9]; exact Is.rfl') ?_)
    (refine awp_ret ?_; show (resRd _ _ _).run _ = some _; simp only [go_sem, a1, a2, a3, a4, a5, a6, a7, a8, a9])
  · intro k a1 a2 a3 a4 a5
    refine con_of_body Tryd.func104 rfl Tryd.call104 (by rw [Tryd.ntmps104]; simp) ?_
    rw [Tryd.ntmps104, Tryd.results104]
    repeat (first | refine aops_op' rfl (by simp only [go_sem, a1, a2, a3, a4, a5]; exact ⟨rfl, rfl⟩) ?_ | refine g_run ?_ | refine g_off ?_ | refine aops_nil (d_end ?_) | refine aops_nil ?_ | refine awp_seq ?_ | refine g_text ?_ | refine g_draw Tryd.mixed ?_ | refine awp_block ?_ | refine awp_skip ?_ | (refine awp_exit ?_; simp only [thenA, blockA, ↓reduceIte, Nat.reduceEqDiff, reduceCtorEq]) | refine awp_yes' (by simp only [go_sem, a1, a2, a3, a4, a5]; exact Is.rfl') ?_ | refine awp_no' (by simp only [go_sem, a1, a2, a3, a4, a5]; exact Is.rfl') ?_)
    (refine awp_ret ?_; show (resRd _ _ _).run _ = some _; simp only [go_sem, a1, a2, a3, a4, a5])
  · intro k a1 a2 a3 a4 a5 a6 a7 a8
    refine con_of_body Tryd.func104 rfl Tryd.call104 (by rw [Tryd.ntmps104]; simp) ?_
    rw [Tryd.ntmps104, Tryd.results104]
    repeat (first | refine aops_op' rfl (by simp only [go_sem, a1, a2, a3, a4, a5, a6, a7, a8]; exact ⟨rfl, rfl⟩) ?_ | refine g_run ?_ | refine g_off ?_ | refine aops_nil (d_end ?_) | refine aops_nil ?_ | refine awp_seq ?_ | refine g_text ?_ | refine g_draw Tryd.mixed ?_ | refine awp_block ?_ | refine awp_skip ?_ | (refine awp_exit ?_; simp only [thenA, blockA, ↓reduceIte, Nat.reduceEqDiff, reduceCtorEq]) | refine awp_yes' (by simp only [go_sem, a1, a2, a3, a4, a5, a6, a7, a8]; exact Is.rfl') ?_ | refine awp_no' (by simp only [go_sem, a1, a2, a3, a4, a5, a6, a7, a8]; exact Is.rfl') ?_)
    (refine awp_ret ?_; show (resRd _ _ _).run _ = some _; simp only [go_sem, a1, a2, a3, a4, a5, a6, a7, a8])
theorem rOperands_con (env : Env) (k : Int) : Con Tryd.prog env 106 [I k] (I (operandsI k)) := by
  refine operands_cases (p := fun k r => Con Tryd.prog env 106 [I k] (I r)) ?_ ?_ ?_ ?_ ?_ ?_ k
  · intro k a1 a2 a3 a4 a5
    refine con_of_body Tryd.func106 rfl Tryd.call106 (by rw [Tryd.ntmps106]; simp) ?_
    rw [Tryd.ntmps106, Tryd.results106]
    repeat (first | refine aops_op' rfl (by simp only [go_sem, a1, a2, a3, a4, a5]; exact ⟨rfl, rfl⟩) ?_ | refine g_run ?_ | refine g_off ?_ | refine aops_nil (d_end ?_) | refine aops_nil ?_ | refine awp_seq ?_ | refine g_text ?_ | refine g_draw Tryd.mixed ?_ | refine awp_block ?_ | refine awp_skip ?_ | (refine awp_exit ?_; simp only [thenA, blockA, ↓reduceIte, Nat.reduceEqDiff, reduceCtorEq]) | refine awp_yes' (by simp only [go_sem, a1, a2, a3, a4, a5]; exact Is.rfl') ?_ | refine awp_no' (by simp only [go_sem, a1, a2, a3, a4, a5]; exact Is.rfl') ?_)
    (refine awp_ret ?_; show (resRd _ _ _).run _ = some _; simp only [go_sem, a1, a2, a3, a4, a5])
  · refine con_of_body Tryd.func106 rfl Tryd.call106 (by rw [Tryd.ntmps106]; simp) ?_
    rw [Tryd.ntmps106, Tryd.results106]
    repeat (first | refine aops_op' rfl (by simp only [go_sem]; exact ⟨rfl, rfl⟩) ?_ | refine g_run ?_ | refine g_off ?_ | refine aops_nil (d_end ?_) | refine aops_nil ?_ | refine awp_seq ?_ | refine g_text ?_ | refine g_draw Tryd.mixed ?_ | refine awp_block ?_ | refine awp_skip ?_ | (refine awp_exit ?_; simp only [thenA, blockA, ↓reduceIte, Nat.reduceEqDiff, reduceCtorEq]) | refine awp_yes' (by simp only [go_sem]; exact Is.rfl') ?_ | refine awp_no' (by simp only [go_sem]; exact Is.rfl') ?_)
    (refine awp_ret ?_; show (resRd _ _ _).run _ = some _; simp only [go_sem])
  · refine con_of_body Tryd.func106 rfl Tryd.call106 (by rw [Tryd.ntmps106]; simp) ?_
    rw [Tryd.ntmps106, Tryd.results106]
    repeat (first | refine aops_op' rfl (by simp only [go_sem]; exact ⟨rfl, rfl⟩) ?_ | refine g_run ?_ | refine g_off ?_ | refine aops_nil (d_end ?_) | refine aops_nil ?_ | refine awp_seq ?_ | refine g_text ?_ | refine g_draw Tryd.mixed ?_ | refine awp_block ?_ | refine awp_skip ?_ | (refine awp_exit ?_; simp only [thenA, blockA, ↓reduceIte, Nat.reduceEqDiff, reduceCtorEq]) | refine awp_yes' (by simp only [go_sem]; exact Is.rfl') ?_ | refine awp_no' (by simp only [go_sem]; exact Is.rfl') ?_)
    (refine awp_ret ?_; show (resRd _ _ _).run _ = some _; simp only [go_sem])
  · intro k a1 a2 a3 a4 a5 a6 a7 a8 a9
    refine con_of_body Tryd.func106 rfl Tryd.call106 (by rw [Tryd.ntmps106]; simp) ?_
    rw [Tryd.ntmps106, Tryd.results106]
    repeat (first | refine aops_op' rfl (by simp only [go_sem, a1, a2, a3, a4, a5, a6, a7, a8, a9]; exact ⟨rfl, rfl⟩) ?_ | refine g_run ?_ | refine g_off ?_ | refine aops_nil (d_end ?_) | refine aops_nil ?_ | refine awp_seq ?_ | refine g_text ?_ | refine g_draw Tryd.mixed ?_ | refine awp_block ?_ | refine awp_skip ?_ | (refine awp_exit ?_; simp only [thenA, blockA, ↓reduceIte, Nat.reduceEqDiff, reduceCtorEq]) | refine awp_yes' (by simp only [go_sem, a1, a2, a3, a4, a5, a6, a7, a8, a9]; exact Is.rfl') ?_ | refine awp_no' (by simp only [go_sem, a1, a2, a3, a4, a5, a6, a7, a8, a9]; exact Is.rfl') ?_)
    (refine awp_ret ?_; show (resRd _ _ _).run _ = some _; simp only [go_sem, a1, a2, a3, a4, a5, a6, a7, a8, a9])
  · intro k a1 a2 a3 a4 a5
    refine con_of_body Tryd.func106 rfl Tryd.call106 (by rw [Tryd.ntmps106]; simp) ?_
    rw [Tryd.ntmps106, Tryd.results106]
    repeat (first | refine aops_op' rfl (by simp only [go_sem, a1, a2, a3, a4, a5]; exact ⟨rfl, rfl⟩) ?_ | refine g_run ?_ | refine g_off ?_ | refine aops_nil (d_end ?_) | refine aops_nil ?_ | refine awp_seq ?_ | refine g_text ?_ | refine g_draw Tryd.mixed ?_ | refine awp_block ?_ | refine awp_skip ?_ | (refine awp_exit ?_; simp only [thenA, blockA, ↓reduceIte, Nat.reduceEqDiff, reduceCtorEq]) | refine awp_yes' (by simp only [go_sem, a1, a2, a3, a4, a5]; exact Is.rfl') ?_ | refine awp_no' (by simp only [go_sem, a1, a2, a3, a4, a5]; exact Is.rfl') ?_)
    (refine awp_ret ?_; show (resRd _ _ _).run _ = some _; simp only [go_sem, a1, a2, a3, a4, a5])
  · intro k a1 a2 a3 a4 a5 a6 a7 a8
    refine con_of_body Tryd.func106 rfl Tryd.call106 (by rw [Tryd.ntmps106]; simp) ?_
    rw [Tryd.ntmps106, Tryd.results106]
    repeat (first | refine aops_op' rfl (by simp only [go_sem, a1, a2, a3, a4, a5, a6, a7, a8]; exact ⟨rfl, rfl⟩) ?_ | refine g_run ?_ | refine g_off ?_ | refine aops_nil (d_end ?_) | refine aops_nil ?_ | refine awp_seq ?_ | refine g_text ?_ | refine g_draw Tryd.mixed ?_ | refine awp_block ?_ | refine awp_skip ?_ | (refine awp_exit ?_; simp only [thenA, blockA, ↓reduceIte, Nat.reduceEqDiff, reduceCtorEq]) | refine awp_yes' (by simp only [go_sem, a1, a2, a3, a4, a5, a6, a7, a8]; exact Is.rfl') ?_ | refine awp_no' (by simp only [go_sem, a1, a2, a3, a4, a5, a6, a7, a8]; exact Is.rfl') ?_)
    (refine awp_ret ?_; show (resRd _ _ _).run _ = some _; simp only [go_sem, a1, a2, a3, a4, a5, a6, a7, a8])
theorem numB_cases {p : OpD → Bool → Prop} (vs ss : Int)
    (h1 : ∀ n : Int, p ⟨1, n⟩ (decide (0 ≤ n) && decide (n ≤ 2147483647))) (h2 : ∀ n : Int, p ⟨2, n⟩ (decide (0 ≤ n) && decide (n < vs))) (h4 : ∀ n : Int, p ⟨4, n⟩ (decide (0 ≤ n) && decide (n < ss)))
    (h : ∀ k n : Int, (k == 1) = false → (k == 2) = false → (k == 4) = false → p ⟨k, n⟩ (decide (n = 0))) (o : OpD) : p o (numB o vs ss) := by
  have ne : ∀ a b : Int, a ≠ b → (a == b) = false := fun a b h => by simpa using h
  obtain ⟨k, n⟩ := o
  unfold numB
  simp only [Bool.decide_and]
  by_cases a : k = 1
  · subst a; simpa using h1 n
  by_cases b : k = 2
  · subst b; simpa using h2 n
  by_cases c : k = 4
  · subst c; simpa using h4 n
  rw [if_neg a, if_neg b, if_neg c]
  exact h k n (ne _ _ a) (ne _ _ b) (ne _ _ c)
theorem pNumber_con (env : Env) (o : OpD) (vs ss : Int) : Con Tryd.prog env 105 [.agg (opAV o), I vs, I ss] (B (numB o vs ss)) := by
  refine numB_cases (p := fun o r => Con Tryd.prog env 105 [.agg (opAV o), I vs, I ss] (B r)) vs ss (fun n => ?_) (fun n => ?_) (fun n => ?_) (fun k n a1 a2 a3 => ?_) o
  · refine con_of_body Tryd.func105 rfl Tryd.call105 (by rw [Tryd.ntmps105]; simp) ?_
    rw [Tryd.ntmps105, Tryd.results105]
    by_cases h1 : 0 ≤ n <;> by_cases h2 : n ≤ 2147483647 <;>
    · have h3 : (n < 2147483648) = (n ≤ 2147483647) := by rw [eq_iff_iff]; omega
      repeat (first | refine aops_op' rfl (by simp only [go_sem, opAV, h1, h2, h3]; exact ⟨rfl, rfl⟩) ?_ | refine g_run ?_ | refine g_off ?_ | refine aops_nil (d_end ?_) | refine aops_nil ?_ | refine awp_seq ?_ | refine g_text ?_ | refine g_draw Tryd.mixed ?_ | refine awp_block ?_ | refine awp_skip ?_ | (refine awp_exit ?_; simp only [thenA, blockA, ↓reduceIte, Nat.reduceEqDiff, reduceCtorEq]) | refine awp_yes' (by simp only [go_sem, opAV, h1, h2, h3]; exact Is.rfl') ?_ | refine awp_no' (by simp only [go_sem, opAV, h1, h2, h3]; exact Is.rfl') ?_)
      (refine awp_ret ?_; show (resRd _ _ _).run _ = some _; simp only [go_sem, opAV, h1, h2, h3])
  · refine con_of_body Tryd.func105 rfl Tryd.call105 (by rw [Tryd.ntmps105]; simp) ?_
    rw [Tryd.ntmps105, Tryd.results105]
    by_cases h1 : 0 ≤ n <;> by_cases h2 : n < vs <;>
    · repeat (first | refine aops_op' rfl (by simp only [go_sem, opAV, h1, h2]; exact ⟨rfl, rfl⟩) ?_ | refine g_run ?_ | refine g_off ?_ | refine aops_nil (d_end ?_) | refine aops_nil ?_ | refine awp_seq ?_ | refine g_text ?_ | refine g_draw Tryd.mixed ?_ | refine awp_block ?_ | refine awp_skip ?_ | (refine awp_exit ?_; simp only [thenA, blockA, ↓reduceIte, Nat.reduceEqDiff, reduceCtorEq]) | refine awp_yes' (by simp only [go_sem, opAV, h1, h2]; exact Is.rfl') ?_ | refine awp_no' (by simp only [go_sem, opAV, h1, h2]; exact Is.rfl') ?_)
      (refine awp_ret ?_; show (resRd _ _ _).run _ = some _; simp only [go_sem, opAV, h1, h2])
  · refine con_of_body Tryd.func105 rfl Tryd.call105 (by rw [Tryd.ntmps105]; simp) ?_
    rw [Tryd.ntmps105, Tryd.results105]
    by_cases h1 : 0 ≤ n <;> by_cases h2 : n < ss <;>
    · repeat (first | refine aops_op' rfl (by simp only [go_sem, opAV, h1, h2]; exact ⟨rfl, rfl⟩) ?_ | refine g_run ?_ | refine g_off ?_ | refine aops_nil (d_end ?_) | refine aops_nil ?_ | refine awp_seq ?_ | refine g_text ?_ | refine g_draw Tryd.mixed ?_ | refine awp_block ?_ | refine awp_skip ?_ | (refine awp_exit ?_; simp only [thenA, blockA, ↓reduceIte, Nat.reduceEqDiff, reduceCtorEq]) | refine awp_yes' (by simp only [go_sem, opAV, h1, h2]; exact Is.rfl') ?_ | refine awp_no' (by simp only [go_sem, opAV, h1, h2]; exact Is.rfl') ?_)
      (refine awp_ret ?_; show (resRd _ _ _).run _ = some _; simp only [go_sem, opAV, h1, h2])
  · refine con_of_body Tryd.func105 rfl Tryd.call105 (by rw [Tryd.ntmps105]; simp) ?_
    rw [Tryd.ntmps105, Tryd.results105]
    by_cases h1 : 0 ≤ n <;> by_cases h2 : n < 1 <;>
    · have h3 : (n = 0) = (0 ≤ n ∧ n < 1) := by rw [eq_iff_iff]; omega
      repeat (first | refine aops_op' rfl (by simp only [go_sem, opAV, h1, h2, h3, a1, a2, a3]; exact ⟨rfl, rfl⟩) ?_ | refine g_run ?_ | refine g_off ?_ | refine aops_nil (d_end ?_) | refine aops_nil ?_ | refine awp_seq ?_ | refine g_text ?_ | refine g_draw Tryd.mixed ?_ | refine awp_block ?_ | refine awp_skip ?_ | (refine awp_exit ?_; simp only [thenA, blockA, ↓reduceIte, Nat.reduceEqDiff, reduceCtorEq]) | refine awp_yes' (by simp only [go_sem, opAV, h1, h2, h3, a1, a2, a3]; exact Is.rfl') ?_ | refine awp_no' (by simp only [go_sem, opAV, h1, h2, h3, a1, a2, a3]; exact Is.rfl') ?_)
      (refine awp_ret ?_; show (resRd _ _ _).run _ = some _; simp only [go_sem, opAV, h1, h2, h3, a1, a2, a3])
theorem rNumber_con (env : Env) (o : OpD) (vs ss : Int) : Con Tryd.prog env 107 [.agg (opAV o), I vs, I ss] (B (numB o vs ss)) := by
  refine numB_cases (p := fun o r => Con Tryd.prog env 107 [.agg (opAV o), I vs, I ss] (B r)) vs ss (fun n => ?_) (fun n => ?_) (fun n => ?_) (fun k n a1 a2 a3 => ?_) o
  · refine con_of_body Tryd.func107 rfl Tryd.call107 (by rw [Tryd.ntmps107]; simp) ?_
    rw [Tryd.ntmps107, Tryd.results107]
    by_cases h1 : 0 ≤ n <;> by_cases h2 : n ≤ 2147483647 <;>
    · repeat (first | refine aops_op' rfl (by simp only [go_sem, opAV, h1, h2]; exact ⟨rfl, rfl⟩) ?_ | refine g_run ?_ | refine g_off ?_ | refine aops_nil (d_end ?_) | refine aops_nil ?_ | refine awp_seq ?_ | refine g_text ?_ | refine g_draw Tryd.mixed ?_ | refine awp_block ?_ | refine awp_skip ?_ | (refine awp_exit ?_; simp only [thenA, blockA, ↓reduceIte, Nat.reduceEqDiff, reduceCtorEq]) | refine awp_yes' (by simp only [go_sem, opAV, h1, h2]; exact Is.rfl') ?_ | refine awp_no' (by simp only [go_sem, opAV, h1, h2]; exact Is.rfl') ?_)
      (refine awp_ret ?_; show (resRd _ _ _).run _ = some _; simp only [go_sem, opAV, h1, h2])
  · refine con_of_body Tryd.func107 rfl Tryd.call107 (by rw [Tryd.ntmps107]; simp) ?_
    rw [Tryd.ntmps107, Tryd.results107]
    by_cases h1 : 0 ≤ n <;> by_cases h2 : n < vs <;>
    · repeat (first | refine aops_op' rfl (by simp only [go_sem, opAV, h1, h2]; exact ⟨rfl, rfl⟩) ?_ | refine g_run ?_ | refine g_off ?_ | refine aops_nil (d_end ?_) | refine aops_nil ?_ | refine awp_seq ?_ | refine g_text ?_ | refine g_draw Tryd.mixed ?_ | refine awp_block ?_ | refine awp_skip ?_ | (refine awp_exit ?_; simp only [thenA, blockA, ↓reduceIte, Nat.reduceEqDiff, reduceCtorEq]) | refine awp_yes' (by simp only [go_sem, opAV, h1, h2]; exact Is.rfl') ?_ | refine awp_no' (by simp only [go_sem, opAV, h1, h2]; exact Is.rfl') ?_)
      (refine awp_ret ?_; show (resRd _ _ _).run _ = some _; simp only [go_sem, opAV, h1, h2])
  · refine con_of_body Tryd.func107 rfl Tryd.call107 (by rw [Tryd.ntmps107]; simp) ?_
    rw [Tryd.ntmps107, Tryd.results107]
    by_cases h1 : 0 ≤ n <;> by_cases h2 : n < ss <;>
    · repeat (first | refine aops_op' rfl (by simp only [go_sem, opAV, h1, h2]; exact ⟨rfl, rfl⟩) ?_ | refine g_run ?_ | refine g_off ?_ | refine aops_nil (d_end ?_) | refine aops_nil ?_ | refine awp_seq ?_ | refine g_text ?_ | refine g_draw Tryd.mixed ?_ | refine awp_block ?_ | refine awp_skip ?_ | (refine awp_exit ?_; simp only [thenA, blockA, ↓reduceIte, Nat.reduceEqDiff, reduceCtorEq]) | refine awp_yes' (by simp only [go_sem, opAV, h1, h2]; exact Is.rfl') ?_ | refine awp_no' (by simp only [go_sem, opAV, h1, h2]; exact Is.rfl') ?_)
      (refine awp_ret ?_; show (resRd _ _ _).run _ = some _; simp only [go_sem, opAV, h1, h2])
  · refine con_of_body Tryd.func107 rfl Tryd.call107 (by rw [Tryd.ntmps107]; simp) ?_
    rw [Tryd.ntmps107, Tryd.results107]
    have h3 : decide (n = 0) = (n == 0) := by rw [Bool.eq_iff_iff]; simp
    rw [h3]
    repeat (first | refine aops_op' rfl (by simp only [go_sem, opAV, a1, a2, a3]; exact ⟨rfl, rfl⟩) ?_ | refine g_run ?_ | refine g_off ?_ | refine aops_nil (d_end ?_) | refine aops_nil ?_ | refine awp_seq ?_ | refine g_text ?_ | refine g_draw Tryd.mixed ?_ | refine awp_block ?_ | refine awp_skip ?_ | (refine awp_exit ?_; simp only [thenA, blockA, ↓reduceIte, Nat.reduceEqDiff, reduceCtorEq]) | refine awp_yes' (by simp only [go_sem, opAV, a1, a2, a3]; exact Is.rfl') ?_ | refine awp_no' (by simp only [go_sem, opAV, a1, a2, a3]; exact Is.rfl') ?_)
    (refine awp_ret ?_; show (resRd _ _ _).run _ = some _; simp only [go_sem, opAV, a1, a2, a3])

/-! States' kinds -/
theorem pHistory_con (env : Env) (s : StD) : Con Tryd.prog env 35 [.agg (stAV s)] (B (memyB s)) := by
  unfold memyB
  refine con_of_body Tryd.func35 rfl Tryd.call35 (by rw [Tryd.ntmps35]; simp) ?_
  rw [Tryd.ntmps35, Tryd.results35]
  cases h1 : (s.kind == 4) <;> cases h2 : (s.kind == 5) <;>
  · repeat (first | refine aops_op' rfl (by simp only [go_sem, stAV, h1, h2]; exact ⟨rfl, rfl⟩) ?_ | refine g_run ?_ | refine g_off ?_ | refine aops_nil (d_end ?_) | refine aops_nil ?_ | refine awp_seq ?_ | refine g_text ?_ | refine g_draw Tryd.mixed ?_ | refine awp_block ?_ | refine awp_skip ?_ | (refine awp_exit ?_; simp only [thenA, blockA, ↓reduceIte, Nat.reduceEqDiff, reduceCtorEq]) | refine awp_yes' (by simp only [go_sem, stAV, h1, h2]; exact Is.rfl') ?_ | refine awp_no' (by simp only [go_sem, stAV, h1, h2]; exact Is.rfl') ?_)
    (refine awp_ret ?_; show (resRd _ _ _).run _ = some _; simp only [go_sem, stAV, h1, h2])
theorem rMemory_con (env : Env) (s : StD) : Con Tryd.prog env 12 [.agg (stAV s)] (B (memyB s)) := by
  unfold memyB
  refine con_of_body Tryd.func12 rfl Tryd.call12 (by rw [Tryd.ntmps12]; simp) ?_
  rw [Tryd.ntmps12, Tryd.results12]
  cases h1 : (s.kind == 4) <;> cases h2 : (s.kind == 5) <;>
  · repeat (first | refine aops_op' rfl (by simp only [go_sem, stAV, h1, h2]; exact ⟨rfl, rfl⟩) ?_ | refine g_run ?_ | refine g_off ?_ | refine aops_nil (d_end ?_) | refine aops_nil ?_ | refine awp_seq ?_ | refine g_text ?_ | refine g_draw Tryd.mixed ?_ | refine awp_block ?_ | refine awp_skip ?_ | (refine awp_exit ?_; simp only [thenA, blockA, ↓reduceIte, Nat.reduceEqDiff, reduceCtorEq]) | refine awp_yes' (by simp only [go_sem, stAV, h1, h2]; exact Is.rfl') ?_ | refine awp_no' (by simp only [go_sem, stAV, h1, h2]; exact Is.rfl') ?_)
    (refine awp_ret ?_; show (resRd _ _ _).run _ = some _; simp only [go_sem, stAV, h1, h2])
theorem pNormal_con (env : Env) (s : StD) : Con Tryd.prog env 31 [.agg (stAV s)] (B (normB s)) := by
  unfold normB
  refine con_of_body Tryd.func31 rfl Tryd.call31 (by rw [Tryd.ntmps31]; simp) ?_
  rw [Tryd.ntmps31, Tryd.results31]
  cases h1 : (s.kind == 1) <;> cases h2 : (s.kind == 2) <;>
  · repeat (first | refine aops_op' rfl (by simp only [go_sem, stAV, h1, h2]; exact ⟨rfl, rfl⟩) ?_ | refine g_run ?_ | refine g_off ?_ | refine aops_nil (d_end ?_) | refine aops_nil ?_ | refine awp_seq ?_ | refine g_text ?_ | refine g_draw Tryd.mixed ?_ | refine awp_block ?_ | refine awp_skip ?_ | (refine awp_exit ?_; simp only [thenA, blockA, ↓reduceIte, Nat.reduceEqDiff, reduceCtorEq]) | refine awp_yes' (by simp only [go_sem, stAV, h1, h2]; exact Is.rfl') ?_ | refine awp_no' (by simp only [go_sem, stAV, h1, h2]; exact Is.rfl') ?_)
    (refine awp_ret ?_; show (resRd _ _ _).run _ = some _; simp only [go_sem, stAV, h1, h2])
theorem rNormal_con (env : Env) (s : StD) : Con Tryd.prog env 50 [.agg (stAV s)] (B (normB s)) := by
  unfold normB
  refine con_of_body Tryd.func50 rfl Tryd.call50 (by rw [Tryd.ntmps50]; simp) ?_
  rw [Tryd.ntmps50, Tryd.results50]
  cases h1 : (s.kind == 1) <;> cases h2 : (s.kind == 2) <;>
  · repeat (first | refine aops_op' rfl (by simp only [go_sem, stAV, h1, h2]; exact ⟨rfl, rfl⟩) ?_ | refine g_run ?_ | refine g_off ?_ | refine aops_nil (d_end ?_) | refine aops_nil ?_ | refine awp_seq ?_ | refine g_text ?_ | refine g_draw Tryd.mixed ?_ | refine awp_block ?_ | refine awp_skip ?_ | (refine awp_exit ?_; simp only [thenA, blockA, ↓reduceIte, Nat.reduceEqDiff, reduceCtorEq]) | refine awp_yes' (by simp only [go_sem, stAV, h1, h2]; exact Is.rfl') ?_ | refine awp_no' (by simp only [go_sem, stAV, h1, h2]; exact Is.rfl') ?_)
    (refine awp_ret ?_; show (resRd _ _ _).run _ = some _; simp only [go_sem, stAV, h1, h2])
end Go.Proofs.YtaggnpieofpphaaDoor
