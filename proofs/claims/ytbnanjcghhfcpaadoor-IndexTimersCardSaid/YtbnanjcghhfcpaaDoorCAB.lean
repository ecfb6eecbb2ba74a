/- Contracts of scriniumref21.Name, scriniumref01.SameBytes, scriniumref34's smaller functions; records as values: by the walk without memory. -/
import Derived.Test.YtbnanjcghhfcpaaDoorCA
set_option linter.unusedSimpArgs false
namespace Go.Proofs.YtbnanjcghhfcpaaDoor
open Go.RowKit
set_option maxRecDepth 100000
set_option maxHeartbeats 1000000
attribute [local go_sem_proc ↓] reduceIte
attribute [local go_sem_proc] reduceCtorEq Nat.reduceAdd Nat.reduceSub Nat.reduceEqDiff Nat.reduceLT Nat.reduceLeDiff Nat.reduceMul Int.reduceToNat Int.reduceBEq Int.reduceBNe Int.reduceEq Int.reduceLT Int.reduceLE
attribute [local go_sem] resRd resOne resAll HoldF HoldR Takes thenA blockA ev_move ev_assign ev_pick ev_alloc ev_box ev_build ev_buildSlice ev_load ev_store ev_binOp ev_unOp ev_convert ev_iface ev_make ev_slice ev_fieldAddr ev_field ev_indexAddr ev_index ev_extract ev_len ev_append ev_min ev_max evMin evMax gt_tmp gt_int gt_bool gt_str gt_nilS gt_nilP gt_nilI pickRd allocRd buildRd sliceRd loadRd unRd ifaceRd exRd val optRd callRd seen AV.plain adopt fzArgs Rd.run AV.asCells newBox runL Comes' Rd.row Rd.bind Out.app apps Eff.app St.renew St.setRow St.show St.put St.init upd evStore evBin eqFs eqCell evConv evSeq evLen evIndexAddr evFieldAddr evField evIndex bound evSlice evAppend evMake loadOf fillAV fillEs fzParts fz fzCell fzCells shows isConstOp splice wrs wes Value.oneCell' List.getD_cons_zero List.getD_cons_succ List.getD_nil List.length_cons List.length_nil List.map_cons List.map_nil List.nil_append List.cons_append List.all_cons List.all_nil List.getElem?_cons_zero List.getElem?_cons_succ List.set_cons_zero List.set_cons_succ List.take_succ_cons List.take_zero List.drop_succ_cons List.drop_zero List.take_nil List.drop_nil List.replicate_succ List.replicate_zero Bool.and_true Bool.true_and Bool.and_self and_self true_and and_true Nat.zero_add Nat.add_zero Option.some.injEq Nat.zero_lt_succ Bool.not_true Bool.not_false ne_eq not_true_eq_false not_false_eq_true Option.map_some Option.map_none List.toList_toArray head headF headR List.length_map Int.toNat_natCast Int.natCast_nonneg List.getElem?_map decide_true decide_false Bool.false_eq_true if_true if_false Bool.or_self Bool.or_true Bool.true_or Bool.false_or Bool.or_false Bool.and_false Bool.false_and List.flatten_cons List.flatten_nil List.append_nil nat0 or_self or_false false_or or_true true_or and_false false_and List.length_append List.isEmpty_nil bne_self_eq_false beq_self_eq_true fits_small strL_l bytesOf_map wants Int.cast_ofNat_Int gt_iff_lt ge_iff_le
attribute [local go_sem ←] List.map_drop List.map_take

set_option maxRecDepth 100000
set_option maxHeartbeats 1000000

def iAV (n : Int) : List AV := [I n]
abbrev Il (l : List Int) : AV := .seq 1 (l.map iAV)
theorem w_between_con (env : Env) (n a b : Int) : Con Tryd.prog env 34 [I n, I a, I b] (B (decide (a ≤ n) && decide (n ≤ b))) := by
  refine con_of_body Tryd.func34 rfl Tryd.call34 (by rw [Tryd.ntmps34]; simp) ?_
  rw [Tryd.ntmps34, Tryd.results34]
  by_cases h1 : a ≤ n
  ·
    repeat (first | refine aops_op' rfl (by simp only [go_sem, h1]; exact ⟨rfl, rfl⟩) ?_ | refine g_run ?_ | refine g_off ?_ | refine aops_nil (d_end ?_) | refine aops_nil ?_ | refine awp_seq ?_ | refine g_text ?_ | refine g_draw Tryd.mixed ?_ | refine awp_block ?_ | refine awp_skip ?_ | (refine awp_exit ?_; simp only [thenA, blockA, ↓reduceIte, Nat.reduceEqDiff, reduceCtorEq]))
    (refine awp_ret ?_; show (resRd _ _ _).run _ = some _; simp only [go_sem, h1])
  ·
    repeat (first | refine aops_op' rfl (by simp only [go_sem, h1]; exact ⟨rfl, rfl⟩) ?_ | refine g_run ?_ | refine g_off ?_ | refine aops_nil (d_end ?_) | refine aops_nil ?_ | refine awp_seq ?_ | refine g_text ?_ | refine g_draw Tryd.mixed ?_ | refine awp_block ?_ | refine awp_skip ?_ | (refine awp_exit ?_; simp only [thenA, blockA, ↓reduceIte, Nat.reduceEqDiff, reduceCtorEq]))
    (refine awp_ret ?_; show (resRd _ _ _).run _ = some _; simp only [go_sem, h1])
theorem bet_states (x : Int) (l : List Int) (i : Nat) (hx : l[i]? = some x) : l.getD i 0 = x := by rw [List.getD_eq_getElem?_getD, hx]; rfl
theorem w_states_con (env : Env) (l : List Int) (hl : l.length ≤ 1000000) : Con Tryd.prog env 35 [Il l] (B (statesB l)) := by
  refine con_of_body Tryd.func35 rfl Tryd.call35 (by rw [Tryd.ntmps35]; simp) ?_
  rw [Tryd.ntmps35, Tryd.results35]
  repeat (first | refine aops_op' rfl (by simp only [go_sem]; exact ⟨rfl, rfl⟩) ?_ | refine g_run ?_ | refine g_off ?_ | refine aops_nil (d_end ?_) | refine aops_nil ?_ | refine awp_seq ?_ | refine g_text ?_ | refine g_draw Tryd.mixed ?_ | refine awp_block ?_ | refine awp_skip ?_ | (refine awp_exit ?_; simp only [thenA, blockA, ↓reduceIte, Nat.reduceEqDiff, reduceCtorEq]))
  refine awp_loopH (D := Nat) (fun i _ => [(0, Il l), (3, I i)]) (fun _ _ => []) (fun i _ _ => i ≤ l.length ∧ ∀ j, j < i → stAt l j = true) (fun i => l.length - i) 0 ?_ ?_ ?_ ?_
  · exact ⟨Nat.zero_le _, fun j hj => by omega⟩
  · (simp only [go_sem])
  · (simp only [go_sem])
  rintro i vs esc ⟨hi, ha⟩
  by_cases hlt : i < l.length
  · have g1 := nlt hlt
    have g2 := wrap_succ hlt (by omega)
    obtain ⟨x, hx⟩ : ∃ x, l[i]? = some x := ⟨l[i], List.getElem?_eq_getElem hlt⟩
    have ex := bet_states x l i hx
    have hnxt : stAt l i = true → ∀ j, j < i + 1 → stAt l j = true := fun h j hj => by
      by_cases e : j = i
      · rw [e]; exact h
      · exact ha j (by omega)
    have hnot : stAt l i = false → statesB l = false := fun h => by rw [statesB, allB_false hlt h]; rfl
    by_cases hb : (decide ((0 : Int) ≤ x) && decide (x ≤ 31)) = true
    · by_cases h0 : i = 0
      · have g3 : ¬ (0 : Int) < (i : Int) := by omega
        repeat (first | refine aops_op' rfl (by simp only [go_sem, g1, g2, hx, hb, iAV, g3]; exact ⟨rfl, rfl⟩) ?_ | refine g_run ?_ | refine g_off ?_ | refine aops_nil (d_end ?_) | refine aops_nil ?_ | refine awp_seq ?_ | refine g_text ?_ | refine g_draw Tryd.mixed ?_ | refine awp_block ?_ | refine awp_skip ?_ | (refine awp_exit ?_; simp only [thenA, blockA, ↓reduceIte, Nat.reduceEqDiff, reduceCtorEq]))
        refine awp_yes' (by simp only [go_sem, g1, g2, hx, hb, iAV, g3]; exact Is.rfl') ?_
        repeat (first | refine aops_op' rfl (by simp only [go_sem, g1, g2, hx, hb, iAV, g3]; exact ⟨rfl, rfl⟩) ?_ | refine g_run ?_ | refine g_off ?_ | refine aops_nil (d_end ?_) | refine aops_nil ?_ | refine awp_seq ?_ | refine g_text ?_ | refine g_draw Tryd.mixed ?_ | refine awp_block ?_ | refine awp_skip ?_ | (refine awp_exit ?_; simp only [thenA, blockA, ↓reduceIte, Nat.reduceEqDiff, reduceCtorEq]))
        refine aops_call' rfl (w_between_con env x 0 31) (by simp only [go_sem, g1, g2, hx, hb, iAV, g3]; exact Is.rfl') (by simp only [go_sem, g1, g2, hx, hb, iAV, g3]; exact ⟨rfl, rfl⟩) ?_
        repeat (first | refine aops_op' rfl (by simp only [go_sem, g1, g2, hx, hb, iAV, g3]; exact ⟨rfl, rfl⟩) ?_ | refine g_run ?_ | refine g_off ?_ | refine aops_nil (d_end ?_) | refine aops_nil ?_ | refine awp_seq ?_ | refine g_text ?_ | refine g_draw Tryd.mixed ?_ | refine awp_block ?_ | refine awp_skip ?_ | (refine awp_exit ?_; simp only [thenA, blockA, ↓reduceIte, Nat.reduceEqDiff, reduceCtorEq]))
        refine awp_no' (by simp only [go_sem, g1, g2, hx, hb, iAV, g3]; exact Is.rfl') ?_
        repeat (first | refine aops_op' rfl (by simp only [go_sem, g1, g2, hx, hb, iAV, g3]; exact ⟨rfl, rfl⟩) ?_ | refine g_run ?_ | refine g_off ?_ | refine aops_nil (d_end ?_) | refine aops_nil ?_ | refine awp_seq ?_ | refine g_text ?_ | refine g_draw Tryd.mixed ?_ | refine awp_block ?_ | refine awp_skip ?_ | (refine awp_exit ?_; simp only [thenA, blockA, ↓reduceIte, Nat.reduceEqDiff, reduceCtorEq]))
        refine ⟨i + 1, ⟨hlt, hnxt ?_⟩, ?_, ?_, ?_⟩
        · unfold stAt
          rw [ex, hb, decide_eq_true h0]
          rfl
        · (simp only [go_sem, g1, g2, hx, hb, iAV, g3])
        · (simp only [go_sem, g1, g2, hx, hb, iAV, g3])
        · omega
      · have g3 : (0 : Int) < (i : Int) := by omega
        have g4 : IntKind.i64.wrap ((i : Int) - 1) = ((i - 1 : Nat) : Int) := i64m i 1 (by omega) (by omega)
        have g5 : ((i - 1 : Nat) : Int) < (l.length : Int) := by omega
        obtain ⟨y, hy⟩ : ∃ y, l[i - 1]? = some y := ⟨l[i - 1], List.getElem?_eq_getElem (by omega)⟩
        have ey := bet_states y l (i - 1) hy
        have es : stAt l i = decide (y < x) := by
          unfold stAt
          rw [ex, ey, hb, decide_eq_false h0]
          rfl
        by_cases hc : x ≤ y
        · have hn := hnot (by rw [es, decide_eq_false (by omega)])
          rw [hn]
          repeat (first | refine aops_op' rfl (by simp only [go_sem, g1, g2, hx, hb, iAV, g3, g4, g5, hy, hc]; exact ⟨rfl, rfl⟩) ?_ | refine g_run ?_ | refine g_off ?_ | refine aops_nil (d_end ?_) | refine aops_nil ?_ | refine awp_seq ?_ | refine g_text ?_ | refine g_draw Tryd.mixed ?_ | refine awp_block ?_ | refine awp_skip ?_ | (refine awp_exit ?_; simp only [thenA, blockA, ↓reduceIte, Nat.reduceEqDiff, reduceCtorEq]))
          refine awp_yes' (by simp only [go_sem, g1, g2, hx, hb, iAV, g3, g4, g5, hy, hc]; exact Is.rfl') ?_
          repeat (first | refine aops_op' rfl (by simp only [go_sem, g1, g2, hx, hb, iAV, g3, g4, g5, hy, hc]; exact ⟨rfl, rfl⟩) ?_ | refine g_run ?_ | refine g_off ?_ | refine aops_nil (d_end ?_) | refine aops_nil ?_ | refine awp_seq ?_ | refine g_text ?_ | refine g_draw Tryd.mixed ?_ | refine awp_block ?_ | refine awp_skip ?_ | (refine awp_exit ?_; simp only [thenA, blockA, ↓reduceIte, Nat.reduceEqDiff, reduceCtorEq]))
          refine aops_call' rfl (w_between_con env x 0 31) (by simp only [go_sem, g1, g2, hx, hb, iAV, g3, g4, g5, hy, hc]; exact Is.rfl') (by simp only [go_sem, g1, g2, hx, hb, iAV, g3, g4, g5, hy, hc]; exact ⟨rfl, rfl⟩) ?_
          repeat (first | refine aops_op' rfl (by simp only [go_sem, g1, g2, hx, hb, iAV, g3, g4, g5, hy, hc]; exact ⟨rfl, rfl⟩) ?_ | refine g_run ?_ | refine g_off ?_ | refine aops_nil (d_end ?_) | refine aops_nil ?_ | refine awp_seq ?_ | refine g_text ?_ | refine g_draw Tryd.mixed ?_ | refine awp_block ?_ | refine awp_skip ?_ | (refine awp_exit ?_; simp only [thenA, blockA, ↓reduceIte, Nat.reduceEqDiff, reduceCtorEq]))
          refine awp_yes' (by simp only [go_sem, g1, g2, hx, hb, iAV, g3, g4, g5, hy, hc]; exact Is.rfl') ?_
          repeat (first | refine aops_op' rfl (by simp only [go_sem, g1, g2, hx, hb, iAV, g3, g4, g5, hy, hc]; exact ⟨rfl, rfl⟩) ?_ | refine g_run ?_ | refine g_off ?_ | refine aops_nil (d_end ?_) | refine aops_nil ?_ | refine awp_seq ?_ | refine g_text ?_ | refine g_draw Tryd.mixed ?_ | refine awp_block ?_ | refine awp_skip ?_ | (refine awp_exit ?_; simp only [thenA, blockA, ↓reduceIte, Nat.reduceEqDiff, reduceCtorEq]))
          (refine awp_ret ?_; show (resRd _ _ _).run _ = some _; simp only [go_sem, g1, g2, hx, hb, iAV, g3, g4, g5, hy, hc])
        ·
          repeat (first | refine aops_op' rfl (by simp only [go_sem, g1, g2, hx, hb, iAV, g3, g4, g5, hy, hc]; exact ⟨rfl, rfl⟩) ?_ | refine g_run ?_ | refine g_off ?_ | refine aops_nil (d_end ?_) | refine aops_nil ?_ | refine awp_seq ?_ | refine g_text ?_ | refine g_draw Tryd.mixed ?_ | refine awp_block ?_ | refine awp_skip ?_ | (refine awp_exit ?_; simp only [thenA, blockA, ↓reduceIte, Nat.reduceEqDiff, reduceCtorEq]))
          refine awp_yes' (by simp only [go_sem, g1, g2, hx, hb, iAV, g3, g4, g5, hy, hc]; exact Is.rfl') ?_
          repeat (first | refine aops_op' rfl (by simp only [go_sem, g1, g2, hx, hb, iAV, g3, g4, g5, hy, hc]; exact ⟨rfl, rfl⟩) ?_ | refine g_run ?_ | refine g_off ?_ | refine aops_nil (d_end ?_) | refine aops_nil ?_ | refine awp_seq ?_ | refine g_text ?_ | refine g_draw Tryd.mixed ?_ | refine awp_block ?_ | refine awp_skip ?_ | (refine awp_exit ?_; simp only [thenA, blockA, ↓reduceIte, Nat.reduceEqDiff, reduceCtorEq]))
          refine aops_call' rfl (w_between_con env x 0 31) (by simp only [go_sem, g1, g2, hx, hb, iAV, g3, g4, g5, hy, hc]; exact Is.rfl') (by simp only [go_sem, g1, g2, hx, hb, iAV, g3, g4, g5, hy, hc]; exact ⟨rfl, rfl⟩) ?_
          repeat (first | refine aops_op' rfl (by simp only [go_sem, g1, g2, hx, hb, iAV, g3, g4, g5, hy, hc]; exact ⟨rfl, rfl⟩) ?_ | refine g_run ?_ | refine g_off ?_ | refine aops_nil (d_end ?_) | refine aops_nil ?_ | refine awp_seq ?_ | refine g_text ?_ | refine g_draw Tryd.mixed ?_ | refine awp_block ?_ | refine awp_skip ?_ | (refine awp_exit ?_; simp only [thenA, blockA, ↓reduceIte, Nat.reduceEqDiff, reduceCtorEq]))
          refine awp_no' (by simp only [go_sem, g1, g2, hx, hb, iAV, g3, g4, g5, hy, hc]; exact Is.rfl') ?_
          repeat (first | refine aops_op' rfl (by simp only [go_sem, g1, g2, hx, hb, iAV, g3, g4, g5, hy, hc]; exact ⟨rfl, rfl⟩) ?_ | refine g_run ?_ | refine g_off ?_ | refine aops_nil (d_end ?_) | refine aops_nil ?_ | refine awp_seq ?_ | refine g_text ?_ | refine g_draw Tryd.mixed ?_ | refine awp_block ?_ | refine awp_skip ?_ | (refine awp_exit ?_; simp only [thenA, blockA, ↓reduceIte, Nat.reduceEqDiff, reduceCtorEq]))
          refine ⟨i + 1, ⟨hlt, hnxt (by rw [es, decide_eq_true (by omega)])⟩, ?_, ?_, ?_⟩
          · (simp only [go_sem, g1, g2, hx, hb, iAV, g3, g4, g5, hy, hc])
          · (simp only [go_sem, g1, g2, hx, hb, iAV, g3, g4, g5, hy, hc])
          · omega
    · have hb : (decide ((0 : Int) ≤ x) && decide (x ≤ 31)) = false := by simpa using hb
      have hn := hnot (by unfold stAt; rw [ex, hb]; rfl)
      rw [hn]
      repeat (first | refine aops_op' rfl (by simp only [go_sem, g1, g2, hx, hb, iAV]; exact ⟨rfl, rfl⟩) ?_ | refine g_run ?_ | refine g_off ?_ | refine aops_nil (d_end ?_) | refine aops_nil ?_ | refine awp_seq ?_ | refine g_text ?_ | refine g_draw Tryd.mixed ?_ | refine awp_block ?_ | refine awp_skip ?_ | (refine awp_exit ?_; simp only [thenA, blockA, ↓reduceIte, Nat.reduceEqDiff, reduceCtorEq]))
      refine awp_yes' (by simp only [go_sem, g1, g2, hx, hb, iAV]; exact Is.rfl') ?_
      repeat (first | refine aops_op' rfl (by simp only [go_sem, g1, g2, hx, hb, iAV]; exact ⟨rfl, rfl⟩) ?_ | refine g_run ?_ | refine g_off ?_ | refine aops_nil (d_end ?_) | refine aops_nil ?_ | refine awp_seq ?_ | refine g_text ?_ | refine g_draw Tryd.mixed ?_ | refine awp_block ?_ | refine awp_skip ?_ | (refine awp_exit ?_; simp only [thenA, blockA, ↓reduceIte, Nat.reduceEqDiff, reduceCtorEq]))
      refine aops_call' rfl (w_between_con env x 0 31) (by simp only [go_sem, g1, g2, hx, hb, iAV]; exact Is.rfl') (by simp only [go_sem, g1, g2, hx, hb, iAV]; exact ⟨rfl, rfl⟩) ?_
      repeat (first | refine aops_op' rfl (by simp only [go_sem, g1, g2, hx, hb, iAV]; exact ⟨rfl, rfl⟩) ?_ | refine g_run ?_ | refine g_off ?_ | refine aops_nil (d_end ?_) | refine aops_nil ?_ | refine awp_seq ?_ | refine g_text ?_ | refine g_draw Tryd.mixed ?_ | refine awp_block ?_ | refine awp_skip ?_ | (refine awp_exit ?_; simp only [thenA, blockA, ↓reduceIte, Nat.reduceEqDiff, reduceCtorEq]))
      refine awp_yes' (by simp only [go_sem, g1, g2, hx, hb, iAV]; exact Is.rfl') ?_
      repeat (first | refine aops_op' rfl (by simp only [go_sem, g1, g2, hx, hb, iAV]; exact ⟨rfl, rfl⟩) ?_ | refine g_run ?_ | refine g_off ?_ | refine aops_nil (d_end ?_) | refine aops_nil ?_ | refine awp_seq ?_ | refine g_text ?_ | refine g_draw Tryd.mixed ?_ | refine awp_block ?_ | refine awp_skip ?_ | (refine awp_exit ?_; simp only [thenA, blockA, ↓reduceIte, Nat.reduceEqDiff, reduceCtorEq]))
      (refine awp_ret ?_; show (resRd _ _ _).run _ = some _; simp only [go_sem, g1, g2, hx, hb, iAV])
  · have g1 : ¬ (i : Int) < (l.length : Int) := by omega
    have hil : i = l.length := by omega
    have e : statesB l = decide ((0 : Int) < (l.length : Int)) := by
      rw [statesB, allB_true (by rw [← hil]; exact ha), Bool.true_and]
      simp
    rw [e]
    repeat (first | refine aops_op' rfl (by simp only [go_sem, g1]; exact ⟨rfl, rfl⟩) ?_ | refine g_run ?_ | refine g_off ?_ | refine aops_nil (d_end ?_) | refine aops_nil ?_ | refine awp_seq ?_ | refine g_text ?_ | refine g_draw Tryd.mixed ?_ | refine awp_block ?_ | refine awp_skip ?_ | (refine awp_exit ?_; simp only [thenA, blockA, ↓reduceIte, Nat.reduceEqDiff, reduceCtorEq]))
    refine awp_no' (by simp only [go_sem, g1]; exact Is.rfl') ?_
    repeat (first | refine aops_op' rfl (by simp only [go_sem, g1]; exact ⟨rfl, rfl⟩) ?_ | refine g_run ?_ | refine g_off ?_ | refine aops_nil (d_end ?_) | refine aops_nil ?_ | refine awp_seq ?_ | refine g_text ?_ | refine g_draw Tryd.mixed ?_ | refine awp_block ?_ | refine awp_skip ?_ | (refine awp_exit ?_; simp only [thenA, blockA, ↓reduceIte, Nat.reduceEqDiff, reduceCtorEq]))
    (refine awp_ret ?_; show (resRd _ _ _).run _ = some _; simp only [go_sem, g1])
theorem two_up (i : Nat) (h : i < 32) : IntKind.i64.wrap (((2 ^ i : Nat) : Int) * 2) = ((2 ^ (i + 1) : Nat) : Int) := by
  have : 2 ^ (i + 1) ≤ 2 ^ 32 := Nat.pow_le_pow_right (by omega) (by omega)
  rw [Nat.pow_succ] at *
  generalize 2 ^ i = q at *
  rw [wrap_in (by omega) (by omega)]
  rfl
set_option maxRecDepth 100000
set_option maxHeartbeats 1000000

def atI (a : Option Nat) : Int := match a with
  | some a => a
  | none => -1
def bookC (b : List UInt8) (a : Option Nat) : List AV := [Bs b, I (atI a)]
def takeO (b : List UInt8) (a : Option Nat) (w : Nat) : Option (Nat × Nat) := a.bind fun a => pnum b a w
def numO (o : Option (Nat × Nat)) : Nat := match o with
  | some p => p.1
  | none => 0
def resO (b : List UInt8) (o : Option (Nat × Nat)) : AV := .tuple [.agg (bookC b (o.map (·.2))), I (numO o)]
theorem tdiv2 (n : Nat) : (n : Int).tmod 2 = ((n % 2 : Nat) : Int) := rfl
theorem div_pow2 (n i : Nat) : n / 2 ^ i / 2 = n / 2 ^ (i + 1) := by rw [Nat.div_div_eq_div_mul, Nat.pow_succ]
theorem half (n : Nat) (h : n < 9223372036854775808) : IntKind.i64.wrap ((n : Int).tdiv 2) = ((n / 2 : Nat) : Int) := by
  rw [show (n : Int).tdiv 2 = ((n / 2 : Nat) : Int) from rfl, wrap_in (by omega) (by omega)]
def memAV (m : Int × List Int) : List AV := [I m.1, Il m.2]
def tmAV (t : List UInt8 × Int) : List AV := [Sg t.1, I t.2]
def inAV (r : Rc) : List AV := [Il r.active, Il r.vars, .seq 2 (r.mem.map memAV), .seq 2 (r.timers.map tmAV), B r.over]
def recAV (r : Rc) : List AV := [I r.chart, I r.born, I r.steps, Il r.active, Il r.vars, .seq 2 (r.mem.map memAV), .seq 2 (r.timers.map tmAV), B r.over]
/-- A record that is not too great to be walked. -/
structure Lite (r : Rc) : Prop where
  active : r.active.length ≤ 1000000
  vars : r.vars.length ≤ 1000000
  mem : r.mem.length ≤ 1000000
  timers : r.timers.length ≤ 1000000
  states : ∀ m ∈ r.mem, m.2.length ≤ 1000000
theorem getD_is {α : Type} {l : List α} {i : Nat} {x d : α} (h : l[i]? = some x) : l.getD i d = x := by rw [List.getD_eq_getElem?_getD, h]; rfl
theorem mem_of {α : Type} {l : List α} {i : Nat} {x : α} (h : l[i]? = some x) : x ∈ l := List.mem_of_getElem? h
theorem le_split (a b n : Int) : decide (a ≤ n ∧ n ≤ b) = (decide (a ≤ n) && decide (n ≤ b)) := Bool.decide_and ..
theorem allB_up {i : Nat} {f : Nat → Bool} (ha : ∀ j, j < i → f j = true) (h : f i = true) : ∀ j, j < i + 1 → f j = true := fun j hj => by
  by_cases e : j = i
  · rw [e]; exact h
  · exact ha j (by omega)
theorem less_turn : ∀ a b : List UInt8, Op.bytesLess b a = !(Op.bytesLess a b || a == b)
  | [], [] => rfl
  | [], _ :: _ => rfl
  | _ :: _, [] => rfl
  | x :: a, y :: b => by
    have ih := less_turn a b
    simp only [Op.bytesLess, List.cons_beq_cons, ih]
    by_cases h : x = y
    · subst h
      simp
    · have h' : ¬ y = x := fun e => h e.symm
      have e1 : (x == y) = false := by simpa using h
      have e2 : (y == x) = false := by simpa using h'
      have e3 : decide (y < x) = !decide (x < y) := by
        rw [Bool.eq_iff_iff]
        simp [UInt8.lt_iff_toNat_lt]
        have : x.toNat ≠ y.toNat := fun e => h (UInt8.toNat_inj.1 e)
        omega
      simp [e1, e2, e3]
end Go.Proofs.YtbnanjcghhfcpaaDoor
