/- Contracts of scriniumref03, by the walk without memory. Contracts of scriniumref03, by the walk without memory. Contracts of scriniumref03: Take, TakeText, PutText, by the walk without memory. Contracts of scriniumref03: TakeText, PutText; of scriniumref21: Name; by the walk without memory. Contracts of scriniumref21.Name, scriniumref01.SameBytes, by the walk without memory. Contracts of scriniumref34: between, states, num, bits; by the walk without memory. Contracts of scriniumref34: take, set, signed; by the walk without memory. Records as values of the walk without memory. -/
import Derived.Test.YtbleibmjippmpaaDoorTy
import Derived.Test.YtbleibmjippmpaaDoorVC
import Derived.Test.YtbleibmjippmpaaDoorField
import Derived.Test.YtbleibmjippmpaaDoorTake2
import Derived.Test.YtbleibmjippmpaaDoorText
import Derived.Test.YtbleibmjippmpaaDoorRefLaw
set_option linter.unusedSimpArgs false
namespace Go.Proofs.YtbleibmjippmpaaDoor
open Go.RowKit

abbrev I (n : Int) : AV := .lit (.int .i64 n)
abbrev U (n : Int) : AV := .lit (.int .u64 n)
abbrev B (b : Bool) : AV := .lit (.bool b)
abbrev Sg (s : List UInt8) : AV := .lit (.string ⟨s.toArray⟩)
abbrev Bs (l : List UInt8) : AV := .seq 1 (l.map bAV)
set_option maxRecDepth 100000
set_option maxHeartbeats 1000000
attribute [local go_sem] resRd resOne resAll HoldF HoldR Takes thenA blockA ev_move ev_assign ev_pick ev_alloc ev_box ev_build ev_buildSlice ev_load ev_store ev_binOp ev_unOp ev_convert ev_iface ev_make ev_slice ev_fieldAddr ev_field ev_indexAddr ev_index ev_extract ev_len ev_append ev_min ev_max evMin evMax gt_tmp gt_int gt_bool gt_str gt_nilS gt_nilP gt_nilI pickRd allocRd buildRd sliceRd loadRd unRd ifaceRd exRd val optRd callRd seen AV.plain adopt fzArgs Rd.run AV.asCells newBox runL Comes' Rd.row Rd.bind Out.app apps Eff.app St.renew St.setRow St.show St.put St.init upd evStore evBin eqFs eqCell evConv evSeq evLen evIndexAddr evFieldAddr evField evIndex bound evSlice evAppend evMake loadOf fillAV fillEs fzParts fz fzCell fzCells shows isConstOp splice wrs wes Value.oneCell' List.getD_cons_zero List.getD_cons_succ List.getD_nil List.length_cons List.length_nil List.map_cons List.map_nil List.nil_append List.cons_append List.all_cons List.all_nil List.getElem?_cons_zero List.getElem?_cons_succ List.set_cons_zero List.set_cons_succ List.take_succ_cons List.take_zero List.drop_succ_cons List.drop_zero List.take_nil List.drop_nil List.replicate_succ List.replicate_zero Bool.and_true Bool.true_and Bool.and_self and_self true_and and_true Nat.zero_add Nat.add_zero Option.some.injEq Nat.zero_lt_succ Bool.not_true Bool.not_false ne_eq not_true_eq_false not_false_eq_true Option.map_some Option.map_none List.toList_toArray head headF headR List.length_map Int.toNat_natCast Int.natCast_nonneg List.getElem?_map decide_true decide_false Bool.false_eq_true if_true if_false Bool.or_self Bool.or_true Bool.true_or Bool.false_or Bool.or_false Bool.and_false Bool.false_and List.flatten_cons List.flatten_nil List.append_nil nat0 or_self or_false false_or or_true true_or and_false false_and List.length_append List.isEmpty_nil bne_self_eq_false beq_self_eq_true fits_small strL_l bytesOf_map wants Int.cast_ofNat_Int gt_iff_lt ge_iff_le
attribute [local go_sem ←] List.map_drop List.map_take
theorem w_right_con (env : Env) (w : Nat) (hw : w = 1 ∨ w = 2 ∨ w = 4 ∨ w = 8) : Con Tryd.prog env 117 [I w] (B true) := by
  rcases hw with rfl | rfl | rfl | rfl <;>
  · refine con_of_body Tryd.func117 rfl Tryd.call117 (by rw [Tryd.ntmps117]; simp) ?_
    rw [Tryd.ntmps117, Tryd.results117]
    repeat (first | refine aops_op' rfl (by simp only [go_sem, reduceIte, reduceCtorEq, Nat.reduceAdd, Nat.reduceSub, Nat.reduceEqDiff, Nat.reduceLT, Nat.reduceLeDiff, Nat.reduceMul, ↓reduceIte, Int.reduceToNat, Int.reduceBEq, Int.reduceBNe, Int.reduceEq, Int.reduceLT, Int.reduceLE]; exact ⟨rfl, rfl⟩) ?_ | refine g_run ?_ | refine g_off ?_ | refine aops_nil (d_end ?_) | refine aops_nil ?_ | refine awp_seq ?_ | refine g_text ?_ | refine g_draw Tryd.mixed ?_ | refine awp_block ?_ | refine awp_skip ?_ | (refine awp_exit ?_; simp only [go_sem, Nat.reduceEqDiff]))
    (refine awp_ret ?_; show (resRd _ _ _).run _ = some _; simp only [go_sem, reduceIte, reduceCtorEq, Nat.reduceAdd, Nat.reduceSub, Nat.reduceEqDiff, Nat.reduceLT, Nat.reduceLeDiff, Nat.reduceMul, ↓reduceIte, Int.reduceToNat, Int.reduceBEq, Int.reduceBNe, Int.reduceEq, Int.reduceLT, Int.reduceLE])
theorem natbeq (a b : Nat) : ((a : Int) == (b : Int)) = (a == b) := by rw [Bool.eq_iff_iff]; simp; omega
theorem natbeq0 (a : Nat) : ((a : Int) == 0) = (a == 0) := natbeq a 0
theorem quo_u (n c : Nat) (h : n < 18446744073709551616) : IntKind.u64.wrap ((n : Int).tdiv (c : Int)) = ((n / c : Nat) : Int) := by
  rw [show (n : Int).tdiv (c : Int) = ((n / c : Nat) : Int) from rfl]
  have : n / c ≤ n := Nat.div_le_self n c
  generalize n / c = m at *
  rw [IntWalk.u64_in _ (by omega)]
theorem quo256 (n : Nat) (h : n < 18446744073709551616) : IntKind.u64.wrap ((n : Int).tdiv 256) = ((n / 256 : Nat) : Int) := quo_u n 256 h
theorem pow_div (n i : Nat) : n / 256 ^ i / 256 = n / 256 ^ (i + 1) := by rw [Nat.div_div_eq_div_mul, Nat.pow_succ]
theorem div_lt (n i : Nat) (h : n < 18446744073709551616) : n / 256 ^ i < 18446744073709551616 := Nat.lt_of_le_of_lt (Nat.div_le_self _ _) h
theorem w_fits_con (env : Env) (n w : Nat) (hn : n < 18446744073709551616) (hw : w ≤ 8) : Con Tryd.prog env 118 [U n, I w] (B (n / 256 ^ w == 0)) := by
  refine con_of_body Tryd.func118 rfl Tryd.call118 (by rw [Tryd.ntmps118]; simp) ?_
  rw [Tryd.ntmps118, Tryd.results118]
  repeat (first | refine aops_op' rfl (by simp only [go_sem, reduceIte, reduceCtorEq, Nat.reduceAdd, Nat.reduceSub, Nat.reduceEqDiff, Nat.reduceLT, Nat.reduceLeDiff, Nat.reduceMul, ↓reduceIte, Int.reduceToNat, Int.reduceBEq, Int.reduceBNe, Int.reduceEq, Int.reduceLT, Int.reduceLE]; exact ⟨rfl, rfl⟩) ?_ | refine g_run ?_ | refine g_off ?_ | refine aops_nil (d_end ?_) | refine aops_nil ?_ | refine awp_seq ?_ | refine g_text ?_ | refine g_draw Tryd.mixed ?_ | refine awp_block ?_ | refine awp_skip ?_ | (refine awp_exit ?_; simp only [go_sem, Nat.reduceEqDiff]))
  refine awp_loopH (D := Nat) (fun i _ => [(0, U ((n / 256 ^ i : Nat) : Int)), (1, I w), (5, I i)]) (fun _ _ => []) (fun i _ _ => i ≤ w) (fun i => w - i) 0 ?_ ?_ ?_ ?_
  · exact Nat.zero_le _
  · (simp only [go_sem, reduceIte, reduceCtorEq, Nat.reduceAdd, Nat.reduceSub, Nat.reduceEqDiff, Nat.reduceLT, Nat.reduceLeDiff, Nat.reduceMul, ↓reduceIte, Int.reduceToNat, Int.reduceBEq, Int.reduceBNe, Int.reduceEq, Int.reduceLT, Int.reduceLE])
    simp
  · (simp only [go_sem, reduceIte, reduceCtorEq, Nat.reduceAdd, Nat.reduceSub, Nat.reduceEqDiff, Nat.reduceLT, Nat.reduceLeDiff, Nat.reduceMul, ↓reduceIte, Int.reduceToNat, Int.reduceBEq, Int.reduceBNe, Int.reduceEq, Int.reduceLT, Int.reduceLE])
  rintro i vs esc hi
  have hd := div_lt n i hn
  by_cases hlt : i < w
  · have h1 := nlt hlt
    have h2 : (i : Int) < 8 := by omega
    have hw := wrap_succ hlt (by omega)
    have hq := quo256 (n / 256 ^ i) hd
    have hp := pow_div n i
    repeat (first | refine aops_op' rfl (by simp only [go_sem, reduceIte, reduceCtorEq, Nat.reduceAdd, Nat.reduceSub, Nat.reduceEqDiff, Nat.reduceLT, Nat.reduceLeDiff, Nat.reduceMul, ↓reduceIte, Int.reduceToNat, Int.reduceBEq, Int.reduceBNe, Int.reduceEq, Int.reduceLT, Int.reduceLE, h1, h2, hw, hq, hp]; exact ⟨rfl, rfl⟩) ?_ | refine g_run ?_ | refine g_off ?_ | refine aops_nil (d_end ?_) | refine aops_nil ?_ | refine awp_seq ?_ | refine g_text ?_ | refine g_draw Tryd.mixed ?_ | refine awp_block ?_ | refine awp_skip ?_ | (refine awp_exit ?_; simp only [go_sem, Nat.reduceEqDiff]))
    refine awp_yes' (by simp only [go_sem, reduceIte, reduceCtorEq, Nat.reduceAdd, Nat.reduceSub, Nat.reduceEqDiff, Nat.reduceLT, Nat.reduceLeDiff, Nat.reduceMul, ↓reduceIte, Int.reduceToNat, Int.reduceBEq, Int.reduceBNe, Int.reduceEq, Int.reduceLT, Int.reduceLE, h1, h2, hw, hq, hp]; exact Is.rfl') ?_
    repeat (first | refine aops_op' rfl (by simp only [go_sem, reduceIte, reduceCtorEq, Nat.reduceAdd, Nat.reduceSub, Nat.reduceEqDiff, Nat.reduceLT, Nat.reduceLeDiff, Nat.reduceMul, ↓reduceIte, Int.reduceToNat, Int.reduceBEq, Int.reduceBNe, Int.reduceEq, Int.reduceLT, Int.reduceLE, h1, h2, hw, hq, hp]; exact ⟨rfl, rfl⟩) ?_ | refine g_run ?_ | refine g_off ?_ | refine aops_nil (d_end ?_) | refine aops_nil ?_ | refine awp_seq ?_ | refine g_text ?_ | refine g_draw Tryd.mixed ?_ | refine awp_block ?_ | refine awp_skip ?_ | (refine awp_exit ?_; simp only [go_sem, Nat.reduceEqDiff]))
    refine ⟨i + 1, hlt, ?_, ?_, ?_⟩
    · (simp only [go_sem, reduceIte, reduceCtorEq, Nat.reduceAdd, Nat.reduceSub, Nat.reduceEqDiff, Nat.reduceLT, Nat.reduceLeDiff, Nat.reduceMul, ↓reduceIte, Int.reduceToNat, Int.reduceBEq, Int.reduceBNe, Int.reduceEq, Int.reduceLT, Int.reduceLE, h1, h2, hw, hq, hp])
    · (simp only [go_sem, reduceIte, reduceCtorEq, Nat.reduceAdd, Nat.reduceSub, Nat.reduceEqDiff, Nat.reduceLT, Nat.reduceLeDiff, Nat.reduceMul, ↓reduceIte, Int.reduceToNat, Int.reduceBEq, Int.reduceBNe, Int.reduceEq, Int.reduceLT, Int.reduceLE, h1, h2, hw, hq, hp])
    · omega
  · have h1 : ¬ (i : Int) < (w : Int) := by omega
    have hiw : i = w := by omega
    repeat (first | refine aops_op' rfl (by simp only [go_sem, reduceIte, reduceCtorEq, Nat.reduceAdd, Nat.reduceSub, Nat.reduceEqDiff, Nat.reduceLT, Nat.reduceLeDiff, Nat.reduceMul, ↓reduceIte, Int.reduceToNat, Int.reduceBEq, Int.reduceBNe, Int.reduceEq, Int.reduceLT, Int.reduceLE, h1]; exact ⟨rfl, rfl⟩) ?_ | refine g_run ?_ | refine g_off ?_ | refine aops_nil (d_end ?_) | refine aops_nil ?_ | refine awp_seq ?_ | refine g_text ?_ | refine g_draw Tryd.mixed ?_ | refine awp_block ?_ | refine awp_skip ?_ | (refine awp_exit ?_; simp only [go_sem, Nat.reduceEqDiff]))
    refine awp_no' (by simp only [go_sem, reduceIte, reduceCtorEq, Nat.reduceAdd, Nat.reduceSub, Nat.reduceEqDiff, Nat.reduceLT, Nat.reduceLeDiff, Nat.reduceMul, ↓reduceIte, Int.reduceToNat, Int.reduceBEq, Int.reduceBNe, Int.reduceEq, Int.reduceLT, Int.reduceLE, h1]; exact Is.rfl') ?_
    repeat (first | refine aops_op' rfl (by simp only [go_sem, reduceIte, reduceCtorEq, Nat.reduceAdd, Nat.reduceSub, Nat.reduceEqDiff, Nat.reduceLT, Nat.reduceLeDiff, Nat.reduceMul, ↓reduceIte, Int.reduceToNat, Int.reduceBEq, Int.reduceBNe, Int.reduceEq, Int.reduceLT, Int.reduceLE, h1]; exact ⟨rfl, rfl⟩) ?_ | refine g_run ?_ | refine g_off ?_ | refine aops_nil (d_end ?_) | refine aops_nil ?_ | refine awp_seq ?_ | refine g_text ?_ | refine g_draw Tryd.mixed ?_ | refine awp_block ?_ | refine awp_skip ?_ | (refine awp_exit ?_; simp only [go_sem, Nat.reduceEqDiff]))
    (refine awp_ret ?_; show (resRd _ _ _).run _ = some _; simp only [go_sem, reduceIte, reduceCtorEq, Nat.reduceAdd, Nat.reduceSub, Nat.reduceEqDiff, Nat.reduceLT, Nat.reduceLeDiff, Nat.reduceMul, ↓reduceIte, Int.reduceToNat, Int.reduceBEq, Int.reduceBNe, Int.reduceEq, Int.reduceLT, Int.reduceLE, h1])
    rw [hiw, natbeq0]
set_option maxRecDepth 100000
set_option maxHeartbeats 1000000
theorem low_byte (n : Nat) : IntKind.u8.wrap ((n : Int).tmod 256) = ((UInt8.ofNat n).toNat : Int) := by
  rw [show (n : Int).tmod 256 = ((n % 256 : Nat) : Int) from rfl, IntWalk.u8_in _ (by omega)]
  simp
theorem w_put_con (env : Env) (b : List UInt8) (n w : Nat) (hb : b.length ≤ 1000000) (hn : n < 18446744073709551616) (hw : w = 1 ∨ w = 2 ∨ w = 4 ∨ w = 8) (hf : n < 256 ^ w) : Con Tryd.prog env 68 [Bs b, U n, I w] (.tuple [Bs (b ++ lowB w n), I 0]) := by
  refine con_of_body Tryd.func68 rfl Tryd.call68 (by rw [Tryd.ntmps68]; simp) ?_
  rw [Tryd.ntmps68, Tryd.results68]
  have hz : (n / 256 ^ w == 0) = true := by simp; exact hf
  have hf0 : Fits b.length 1 := ⟨by omega, by omega⟩
  repeat (first | refine aops_op' rfl (by simp only [go_sem, reduceIte, reduceCtorEq, Nat.reduceAdd, Nat.reduceSub, Nat.reduceEqDiff, Nat.reduceLT, Nat.reduceLeDiff, Nat.reduceMul, ↓reduceIte, Int.reduceToNat, Int.reduceBEq, Int.reduceBNe, Int.reduceEq, Int.reduceLT, Int.reduceLE, hz, hf0]; exact ⟨rfl, rfl⟩) ?_ | refine g_run ?_ | refine g_off ?_ | refine aops_nil (d_end ?_) | refine aops_nil ?_ | refine awp_seq ?_ | refine g_text ?_ | refine g_draw Tryd.mixed ?_ | refine awp_block ?_ | refine awp_skip ?_ | (refine awp_exit ?_; simp only [go_sem, Nat.reduceEqDiff]))
  refine aops_call' rfl (w_right_con env w hw) (by simp only [go_sem, reduceIte, reduceCtorEq, Nat.reduceAdd, Nat.reduceSub, Nat.reduceEqDiff, Nat.reduceLT, Nat.reduceLeDiff, Nat.reduceMul, ↓reduceIte, Int.reduceToNat, Int.reduceBEq, Int.reduceBNe, Int.reduceEq, Int.reduceLT, Int.reduceLE, hz, hf0]; exact Is.rfl') (by simp only [go_sem, reduceIte, reduceCtorEq, Nat.reduceAdd, Nat.reduceSub, Nat.reduceEqDiff, Nat.reduceLT, Nat.reduceLeDiff, Nat.reduceMul, ↓reduceIte, Int.reduceToNat, Int.reduceBEq, Int.reduceBNe, Int.reduceEq, Int.reduceLT, Int.reduceLE, hz, hf0]; exact ⟨rfl, rfl⟩) ?_
  repeat (first | refine aops_op' rfl (by simp only [go_sem, reduceIte, reduceCtorEq, Nat.reduceAdd, Nat.reduceSub, Nat.reduceEqDiff, Nat.reduceLT, Nat.reduceLeDiff, Nat.reduceMul, ↓reduceIte, Int.reduceToNat, Int.reduceBEq, Int.reduceBNe, Int.reduceEq, Int.reduceLT, Int.reduceLE, hz, hf0]; exact ⟨rfl, rfl⟩) ?_ | refine g_run ?_ | refine g_off ?_ | refine aops_nil (d_end ?_) | refine aops_nil ?_ | refine awp_seq ?_ | refine g_text ?_ | refine g_draw Tryd.mixed ?_ | refine awp_block ?_ | refine awp_skip ?_ | (refine awp_exit ?_; simp only [go_sem, Nat.reduceEqDiff]))
  refine aops_call' rfl (w_fits_con env n w hn (by omega)) (by simp only [go_sem, reduceIte, reduceCtorEq, Nat.reduceAdd, Nat.reduceSub, Nat.reduceEqDiff, Nat.reduceLT, Nat.reduceLeDiff, Nat.reduceMul, ↓reduceIte, Int.reduceToNat, Int.reduceBEq, Int.reduceBNe, Int.reduceEq, Int.reduceLT, Int.reduceLE, hz, hf0]; exact Is.rfl') (by simp only [go_sem, reduceIte, reduceCtorEq, Nat.reduceAdd, Nat.reduceSub, Nat.reduceEqDiff, Nat.reduceLT, Nat.reduceLeDiff, Nat.reduceMul, ↓reduceIte, Int.reduceToNat, Int.reduceBEq, Int.reduceBNe, Int.reduceEq, Int.reduceLT, Int.reduceLE, hz, hf0]; exact ⟨rfl, rfl⟩) ?_
  repeat (first | refine aops_op' rfl (by simp only [go_sem, reduceIte, reduceCtorEq, Nat.reduceAdd, Nat.reduceSub, Nat.reduceEqDiff, Nat.reduceLT, Nat.reduceLeDiff, Nat.reduceMul, ↓reduceIte, Int.reduceToNat, Int.reduceBEq, Int.reduceBNe, Int.reduceEq, Int.reduceLT, Int.reduceLE, hz, hf0]; exact ⟨rfl, rfl⟩) ?_ | refine g_run ?_ | refine g_off ?_ | refine aops_nil (d_end ?_) | refine aops_nil ?_ | refine awp_seq ?_ | refine g_text ?_ | refine g_draw Tryd.mixed ?_ | refine awp_block ?_ | refine awp_skip ?_ | (refine awp_exit ?_; simp only [go_sem, Nat.reduceEqDiff]))
  refine awp_no' (by simp only [go_sem, reduceIte, reduceCtorEq, Nat.reduceAdd, Nat.reduceSub, Nat.reduceEqDiff, Nat.reduceLT, Nat.reduceLeDiff, Nat.reduceMul, ↓reduceIte, Int.reduceToNat, Int.reduceBEq, Int.reduceBNe, Int.reduceEq, Int.reduceLT, Int.reduceLE, hz, hf0]; exact Is.rfl') ?_
  repeat (first | refine aops_op' rfl (by simp only [go_sem, reduceIte, reduceCtorEq, Nat.reduceAdd, Nat.reduceSub, Nat.reduceEqDiff, Nat.reduceLT, Nat.reduceLeDiff, Nat.reduceMul, ↓reduceIte, Int.reduceToNat, Int.reduceBEq, Int.reduceBNe, Int.reduceEq, Int.reduceLT, Int.reduceLE, hz, hf0]; exact ⟨rfl, rfl⟩) ?_ | refine g_run ?_ | refine g_off ?_ | refine aops_nil (d_end ?_) | refine aops_nil ?_ | refine awp_seq ?_ | refine g_text ?_ | refine g_draw Tryd.mixed ?_ | refine awp_block ?_ | refine awp_skip ?_ | (refine awp_exit ?_; simp only [go_sem, Nat.reduceEqDiff]))
  refine awp_loopH (D := Nat) (fun i vs => [(1, U ((n / 256 ^ i : Nat) : Int)), (2, I w), (8, .row 19 (vs 19)), (9, I i)]) (fun i _ => [(19, ⟨1, (b ++ lowB i n).map bAV, 5, true⟩)]) (fun i _ _ => i ≤ w) (fun i => w - i) 0 ?_ ?_ ?_ ?_
  · exact Nat.zero_le _
  · (simp only [go_sem, reduceIte, reduceCtorEq, Nat.reduceAdd, Nat.reduceSub, Nat.reduceEqDiff, Nat.reduceLT, Nat.reduceLeDiff, Nat.reduceMul, ↓reduceIte, Int.reduceToNat, Int.reduceBEq, Int.reduceBNe, Int.reduceEq, Int.reduceLT, Int.reduceLE, hz, hf0])
    simp
  · (simp only [go_sem, reduceIte, reduceCtorEq, Nat.reduceAdd, Nat.reduceSub, Nat.reduceEqDiff, Nat.reduceLT, Nat.reduceLeDiff, Nat.reduceMul, ↓reduceIte, Int.reduceToNat, Int.reduceBEq, Int.reduceBNe, Int.reduceEq, Int.reduceLT, Int.reduceLE, hz, hf0])
    simp [lowB]
  rintro i vs esc hi
  have hd := div_lt n i hn
  by_cases hlt : i < w
  · have h1 := nlt hlt
    have hw := wrap_succ hlt (by omega)
    have hq := quo256 (n / 256 ^ i) hd
    have hp := pow_div n i
    have hm := low_byte (n / 256 ^ i)
    have hf1 : Fits (b.length + i + 1) 1 := ⟨by omega, by omega⟩
    repeat (first | refine aops_op' rfl (by simp only [go_sem, reduceIte, reduceCtorEq, Nat.reduceAdd, Nat.reduceSub, Nat.reduceEqDiff, Nat.reduceLT, Nat.reduceLeDiff, Nat.reduceMul, ↓reduceIte, Int.reduceToNat, Int.reduceBEq, Int.reduceBNe, Int.reduceEq, Int.reduceLT, Int.reduceLE, h1, hw, hq, hp, hm, hf1, lowB_len]; exact ⟨rfl, rfl⟩) ?_ | refine g_run ?_ | refine g_off ?_ | refine aops_nil (d_end ?_) | refine aops_nil ?_ | refine awp_seq ?_ | refine g_text ?_ | refine g_draw Tryd.mixed ?_ | refine awp_block ?_ | refine awp_skip ?_ | (refine awp_exit ?_; simp only [go_sem, Nat.reduceEqDiff]))
    refine awp_yes' (by simp only [go_sem, reduceIte, reduceCtorEq, Nat.reduceAdd, Nat.reduceSub, Nat.reduceEqDiff, Nat.reduceLT, Nat.reduceLeDiff, Nat.reduceMul, ↓reduceIte, Int.reduceToNat, Int.reduceBEq, Int.reduceBNe, Int.reduceEq, Int.reduceLT, Int.reduceLE, h1, hw, hq, hp, hm, hf1, lowB_len]; exact Is.rfl') ?_
    repeat (first | refine aops_op' rfl (by simp only [go_sem, reduceIte, reduceCtorEq, Nat.reduceAdd, Nat.reduceSub, Nat.reduceEqDiff, Nat.reduceLT, Nat.reduceLeDiff, Nat.reduceMul, ↓reduceIte, Int.reduceToNat, Int.reduceBEq, Int.reduceBNe, Int.reduceEq, Int.reduceLT, Int.reduceLE, h1, hw, hq, hp, hm, hf1, lowB_len]; exact ⟨rfl, rfl⟩) ?_ | refine g_run ?_ | refine g_off ?_ | refine aops_nil (d_end ?_) | refine aops_nil ?_ | refine awp_seq ?_ | refine g_text ?_ | refine g_draw Tryd.mixed ?_ | refine awp_block ?_ | refine awp_skip ?_ | (refine awp_exit ?_; simp only [go_sem, Nat.reduceEqDiff]))
    refine ⟨i + 1, hlt, ?_, ?_, ?_⟩
    · (simp only [go_sem, reduceIte, reduceCtorEq, Nat.reduceAdd, Nat.reduceSub, Nat.reduceEqDiff, Nat.reduceLT, Nat.reduceLeDiff, Nat.reduceMul, ↓reduceIte, Int.reduceToNat, Int.reduceBEq, Int.reduceBNe, Int.reduceEq, Int.reduceLT, Int.reduceLE, h1, hw, hq, hp, hm, hf1, lowB_len])
    · (simp only [go_sem, reduceIte, reduceCtorEq, Nat.reduceAdd, Nat.reduceSub, Nat.reduceEqDiff, Nat.reduceLT, Nat.reduceLeDiff, Nat.reduceMul, ↓reduceIte, Int.reduceToNat, Int.reduceBEq, Int.reduceBNe, Int.reduceEq, Int.reduceLT, Int.reduceLE, h1, hw, hq, hp, hm, hf1, lowB_len])
      simp [lowB_snoc, bAV]
    · omega
  · have h1 : ¬ (i : Int) < (w : Int) := by omega
    have hiw : i = w := by omega
    repeat (first | refine aops_op' rfl (by simp only [go_sem, reduceIte, reduceCtorEq, Nat.reduceAdd, Nat.reduceSub, Nat.reduceEqDiff, Nat.reduceLT, Nat.reduceLeDiff, Nat.reduceMul, ↓reduceIte, Int.reduceToNat, Int.reduceBEq, Int.reduceBNe, Int.reduceEq, Int.reduceLT, Int.reduceLE, h1]; exact ⟨rfl, rfl⟩) ?_ | refine g_run ?_ | refine g_off ?_ | refine aops_nil (d_end ?_) | refine aops_nil ?_ | refine awp_seq ?_ | refine g_text ?_ | refine g_draw Tryd.mixed ?_ | refine awp_block ?_ | refine awp_skip ?_ | (refine awp_exit ?_; simp only [go_sem, Nat.reduceEqDiff]))
    refine awp_no' (by simp only [go_sem, reduceIte, reduceCtorEq, Nat.reduceAdd, Nat.reduceSub, Nat.reduceEqDiff, Nat.reduceLT, Nat.reduceLeDiff, Nat.reduceMul, ↓reduceIte, Int.reduceToNat, Int.reduceBEq, Int.reduceBNe, Int.reduceEq, Int.reduceLT, Int.reduceLE, h1]; exact Is.rfl') ?_
    repeat (first | refine aops_op' rfl (by simp only [go_sem, reduceIte, reduceCtorEq, Nat.reduceAdd, Nat.reduceSub, Nat.reduceEqDiff, Nat.reduceLT, Nat.reduceLeDiff, Nat.reduceMul, ↓reduceIte, Int.reduceToNat, Int.reduceBEq, Int.reduceBNe, Int.reduceEq, Int.reduceLT, Int.reduceLE, h1]; exact ⟨rfl, rfl⟩) ?_ | refine g_run ?_ | refine g_off ?_ | refine aops_nil (d_end ?_) | refine aops_nil ?_ | refine awp_seq ?_ | refine g_text ?_ | refine g_draw Tryd.mixed ?_ | refine awp_block ?_ | refine awp_skip ?_ | (refine awp_exit ?_; simp only [go_sem, Nat.reduceEqDiff]))
    (refine awp_ret ?_; show (resRd _ _ _).run _ = some _; simp only [go_sem, reduceIte, reduceCtorEq, Nat.reduceAdd, Nat.reduceSub, Nat.reduceEqDiff, Nat.reduceLT, Nat.reduceLeDiff, Nat.reduceMul, ↓reduceIte, Int.reduceToNat, Int.reduceBEq, Int.reduceBNe, Int.reduceEq, Int.reduceLT, Int.reduceLE, h1])
    rw [hiw]
set_option maxRecDepth 100000
set_option maxHeartbeats 1000000

def sc (i : Nat) : Nat := 256 ^ i % 18446744073709551616
theorem sc_up (i : Nat) : IntKind.u64.wrap ((sc i : Int) * 256) = (sc (i + 1) : Int) := by
  rw [IntKind.wrap_u64, show ((sc i : Nat) : Int) * 256 = ((sc i * 256 : Nat) : Int) by omega]
  unfold sc
  rw [Nat.pow_succ]
  omega
theorem sc_small (i : Nat) (h : i ≤ 7) : sc i = 256 ^ i := by
  match i, h with
  | 0, _ | 1, _ | 2, _ | 3, _ | 4, _ | 5, _ | 6, _ | 7, _ => rfl
theorem pow_le8 (i : Nat) (h : i ≤ 7) : 256 ^ (i + 1) ≤ 18446744073709551616 := by
  match i, h with
  | 0, _ | 1, _ | 2, _ | 3, _ | 4, _ | 5, _ | 6, _ | 7, _ => decide
theorem take_step (l : List UInt8) (i : Nat) (h : i < l.length) (hi : i ≤ 7) : IntKind.u64.wrap ((valLE (l.take i) : Int) + IntKind.u64.wrap (IntKind.u64.wrap (l[i].toNat : Int) * (sc i : Int))) = (valLE (l.take (i + 1)) : Int) := by
  have h1 : valLE (l.take (i + 1)) < 256 ^ (i + 1) := by
    have := valLE_lt (l.take (i + 1))
    rwa [List.length_take, Nat.min_eq_left (by omega)] at this
  have h2 := pow_le8 i hi
  have h3 := valLE_take l i h
  rw [sc_small i hi]
  have hb := l[i].toNat_lt
  rw [IntWalk.u64_in (l[i].toNat : Int) (by omega), show (l[i].toNat : Int) * ((256 ^ i : Nat) : Int) = ((l[i].toNat * 256 ^ i : Nat) : Int) from (Int.natCast_mul _ _).symm]
  generalize l[i].toNat * 256 ^ i = y at *
  rw [IntWalk.u64_in (y : Int) (by omega), IntWalk.u64_in _ (by omega)]
  omega
theorem w_take_yes (env : Env) (b : List UInt8) (at_ w : Nat) (hb : b.length ≤ 1000000) (hw : w = 1 ∨ w = 2 ∨ w = 4 ∨ w = 8) (hf : at_ + w ≤ b.length) : Con Tryd.prog env 69 [Bs b, I at_, I w] (.tuple [U (valLE (cut b at_ w)), I 0]) := by
  refine con_of_body Tryd.func69 rfl Tryd.call69 (by rw [Tryd.ntmps69]; simp) ?_
  rw [Tryd.ntmps69, Tryd.results69]
  have h0 : ¬ (at_ : Int) < 0 := by omega
  have h1 : ¬ (b.length : Int) < (at_ : Int) := by omega
  have h2 : IntKind.i64.wrap ((b.length : Int) - (at_ : Int)) = ((b.length - at_ : Nat) : Int) := by rw [wrap_in (by omega) (by omega)]; omega
  have h3 : ¬ ((b.length - at_ : Nat) : Int) < (w : Int) := by omega
  repeat (first | refine aops_op' rfl (by simp only [go_sem, reduceIte, reduceCtorEq, Nat.reduceAdd, Nat.reduceSub, Nat.reduceEqDiff, Nat.reduceLT, Nat.reduceLeDiff, Nat.reduceMul, ↓reduceIte, Int.reduceToNat, Int.reduceBEq, Int.reduceBNe, Int.reduceEq, Int.reduceLT, Int.reduceLE, h0, h1, h2, h3]; exact ⟨rfl, rfl⟩) ?_ | refine g_run ?_ | refine g_off ?_ | refine aops_nil (d_end ?_) | refine aops_nil ?_ | refine awp_seq ?_ | refine g_text ?_ | refine g_draw Tryd.mixed ?_ | refine awp_block ?_ | refine awp_skip ?_ | (refine awp_exit ?_; simp only [go_sem, Nat.reduceEqDiff]))
  refine aops_call' rfl (w_right_con env w hw) (by simp only [go_sem, reduceIte, reduceCtorEq, Nat.reduceAdd, Nat.reduceSub, Nat.reduceEqDiff, Nat.reduceLT, Nat.reduceLeDiff, Nat.reduceMul, ↓reduceIte, Int.reduceToNat, Int.reduceBEq, Int.reduceBNe, Int.reduceEq, Int.reduceLT, Int.reduceLE, h0, h1, h2, h3]; exact Is.rfl') (by simp only [go_sem, reduceIte, reduceCtorEq, Nat.reduceAdd, Nat.reduceSub, Nat.reduceEqDiff, Nat.reduceLT, Nat.reduceLeDiff, Nat.reduceMul, ↓reduceIte, Int.reduceToNat, Int.reduceBEq, Int.reduceBNe, Int.reduceEq, Int.reduceLT, Int.reduceLE, h0, h1, h2, h3]; exact ⟨rfl, rfl⟩) ?_
  repeat (first | refine aops_op' rfl (by simp only [go_sem, reduceIte, reduceCtorEq, Nat.reduceAdd, Nat.reduceSub, Nat.reduceEqDiff, Nat.reduceLT, Nat.reduceLeDiff, Nat.reduceMul, ↓reduceIte, Int.reduceToNat, Int.reduceBEq, Int.reduceBNe, Int.reduceEq, Int.reduceLT, Int.reduceLE, h0, h1, h2, h3]; exact ⟨rfl, rfl⟩) ?_ | refine g_run ?_ | refine g_off ?_ | refine aops_nil (d_end ?_) | refine aops_nil ?_ | refine awp_seq ?_ | refine g_text ?_ | refine g_draw Tryd.mixed ?_ | refine awp_block ?_ | refine awp_skip ?_ | (refine awp_exit ?_; simp only [go_sem, Nat.reduceEqDiff]))
  refine awp_no' (by simp only [go_sem, reduceIte, reduceCtorEq, Nat.reduceAdd, Nat.reduceSub, Nat.reduceEqDiff, Nat.reduceLT, Nat.reduceLeDiff, Nat.reduceMul, ↓reduceIte, Int.reduceToNat, Int.reduceBEq, Int.reduceBNe, Int.reduceEq, Int.reduceLT, Int.reduceLE, h0, h1, h2, h3]; exact Is.rfl') ?_
  repeat (first | refine aops_op' rfl (by simp only [go_sem, reduceIte, reduceCtorEq, Nat.reduceAdd, Nat.reduceSub, Nat.reduceEqDiff, Nat.reduceLT, Nat.reduceLeDiff, Nat.reduceMul, ↓reduceIte, Int.reduceToNat, Int.reduceBEq, Int.reduceBNe, Int.reduceEq, Int.reduceLT, Int.reduceLE, h0, h1, h2, h3]; exact ⟨rfl, rfl⟩) ?_ | refine g_run ?_ | refine g_off ?_ | refine aops_nil (d_end ?_) | refine aops_nil ?_ | refine awp_seq ?_ | refine g_text ?_ | refine g_draw Tryd.mixed ?_ | refine awp_block ?_ | refine awp_skip ?_ | (refine awp_exit ?_; simp only [go_sem, Nat.reduceEqDiff]))
  refine awp_no' (by simp only [go_sem, reduceIte, reduceCtorEq, Nat.reduceAdd, Nat.reduceSub, Nat.reduceEqDiff, Nat.reduceLT, Nat.reduceLeDiff, Nat.reduceMul, ↓reduceIte, Int.reduceToNat, Int.reduceBEq, Int.reduceBNe, Int.reduceEq, Int.reduceLT, Int.reduceLE, h0, h1, h2, h3]; exact Is.rfl') ?_
  repeat (first | refine aops_op' rfl (by simp only [go_sem, reduceIte, reduceCtorEq, Nat.reduceAdd, Nat.reduceSub, Nat.reduceEqDiff, Nat.reduceLT, Nat.reduceLeDiff, Nat.reduceMul, ↓reduceIte, Int.reduceToNat, Int.reduceBEq, Int.reduceBNe, Int.reduceEq, Int.reduceLT, Int.reduceLE, h0, h1, h2, h3]; exact ⟨rfl, rfl⟩) ?_ | refine g_run ?_ | refine g_off ?_ | refine aops_nil (d_end ?_) | refine aops_nil ?_ | refine awp_seq ?_ | refine g_text ?_ | refine g_draw Tryd.mixed ?_ | refine awp_block ?_ | refine awp_skip ?_ | (refine awp_exit ?_; simp only [go_sem, Nat.reduceEqDiff]))
  refine awp_loopH (D := Nat) (fun i _ => [(0, Bs b), (1, I at_), (2, I w), (8, U ((valLE ((cut b at_ w).take i) : Nat) : Int)), (9, U ((sc i : Nat) : Int)), (10, I i)]) (fun _ _ => []) (fun i _ _ => i ≤ w) (fun i => w - i) 0 ?_ ?_ ?_ ?_
  · exact Nat.zero_le _
  · (simp only [go_sem, reduceIte, reduceCtorEq, Nat.reduceAdd, Nat.reduceSub, Nat.reduceEqDiff, Nat.reduceLT, Nat.reduceLeDiff, Nat.reduceMul, ↓reduceIte, Int.reduceToNat, Int.reduceBEq, Int.reduceBNe, Int.reduceEq, Int.reduceLT, Int.reduceLE, h0, h1, h2, h3])
    simp [valLE, sc]
  · (simp only [go_sem, reduceIte, reduceCtorEq, Nat.reduceAdd, Nat.reduceSub, Nat.reduceEqDiff, Nat.reduceLT, Nat.reduceLeDiff, Nat.reduceMul, ↓reduceIte, Int.reduceToNat, Int.reduceBEq, Int.reduceBNe, Int.reduceEq, Int.reduceLT, Int.reduceLE, h0, h1, h2, h3])
  rintro i vs esc hi
  by_cases hlt : i < w
  · have hcl := cut_len b at_ w hf
    have g1 := nlt hlt
    have g2 := wrap_succ hlt (by omega)
    have g3 : IntKind.i64.wrap ((at_ : Int) + (i : Int)) = ((at_ + i : Nat) : Int) := by rw [wrap_in (by omega) (by omega)]; omega
    have g4 : ((at_ + i : Nat) : Int) < (b.length : Int) := by omega
    have g5 : b[at_ + i]? = some ((cut b at_ w)[i]'(by omega)) := by rw [cut_get b at_ w i hf hlt]; exact List.getElem?_eq_getElem (by omega)
    have g6 := take_step (cut b at_ w) i (by omega) (by omega)
    have g7 := sc_up i
    repeat (first | refine aops_op' rfl (by simp only [go_sem, reduceIte, reduceCtorEq, Nat.reduceAdd, Nat.reduceSub, Nat.reduceEqDiff, Nat.reduceLT, Nat.reduceLeDiff, Nat.reduceMul, ↓reduceIte, Int.reduceToNat, Int.reduceBEq, Int.reduceBNe, Int.reduceEq, Int.reduceLT, Int.reduceLE, g1, g2, g3, g4, g5, g6, g7, bAV]; exact ⟨rfl, rfl⟩) ?_ | refine g_run ?_ | refine g_off ?_ | refine aops_nil (d_end ?_) | refine aops_nil ?_ | refine awp_seq ?_ | refine g_text ?_ | refine g_draw Tryd.mixed ?_ | refine awp_block ?_ | refine awp_skip ?_ | (refine awp_exit ?_; simp only [go_sem, Nat.reduceEqDiff]))
    refine awp_yes' (by simp only [go_sem, reduceIte, reduceCtorEq, Nat.reduceAdd, Nat.reduceSub, Nat.reduceEqDiff, Nat.reduceLT, Nat.reduceLeDiff, Nat.reduceMul, ↓reduceIte, Int.reduceToNat, Int.reduceBEq, Int.reduceBNe, Int.reduceEq, Int.reduceLT, Int.reduceLE, g1, g2, g3, g4, g5, g6, g7, bAV]; exact Is.rfl') ?_
    repeat (first | refine aops_op' rfl (by simp only [go_sem, reduceIte, reduceCtorEq, Nat.reduceAdd, Nat.reduceSub, Nat.reduceEqDiff, Nat.reduceLT, Nat.reduceLeDiff, Nat.reduceMul, ↓reduceIte, Int.reduceToNat, Int.reduceBEq, Int.reduceBNe, Int.reduceEq, Int.reduceLT, Int.reduceLE, g1, g2, g3, g4, g5, g6, g7, bAV]; exact ⟨rfl, rfl⟩) ?_ | refine g_run ?_ | refine g_off ?_ | refine aops_nil (d_end ?_) | refine aops_nil ?_ | refine awp_seq ?_ | refine g_text ?_ | refine g_draw Tryd.mixed ?_ | refine awp_block ?_ | refine awp_skip ?_ | (refine awp_exit ?_; simp only [go_sem, Nat.reduceEqDiff]))
    refine ⟨i + 1, hlt, ?_, ?_, ?_⟩
    · (simp only [go_sem, reduceIte, reduceCtorEq, Nat.reduceAdd, Nat.reduceSub, Nat.reduceEqDiff, Nat.reduceLT, Nat.reduceLeDiff, Nat.reduceMul, ↓reduceIte, Int.reduceToNat, Int.reduceBEq, Int.reduceBNe, Int.reduceEq, Int.reduceLT, Int.reduceLE, g1, g2, g3, g4, g5, g6, g7, bAV])
    · (simp only [go_sem, reduceIte, reduceCtorEq, Nat.reduceAdd, Nat.reduceSub, Nat.reduceEqDiff, Nat.reduceLT, Nat.reduceLeDiff, Nat.reduceMul, ↓reduceIte, Int.reduceToNat, Int.reduceBEq, Int.reduceBNe, Int.reduceEq, Int.reduceLT, Int.reduceLE, g1, g2, g3, g4, g5, g6, g7, bAV])
    · omega
  · have h1 : ¬ (i : Int) < (w : Int) := by omega
    have hiw : i = w := by omega
    repeat (first | refine aops_op' rfl (by simp only [go_sem, reduceIte, reduceCtorEq, Nat.reduceAdd, Nat.reduceSub, Nat.reduceEqDiff, Nat.reduceLT, Nat.reduceLeDiff, Nat.reduceMul, ↓reduceIte, Int.reduceToNat, Int.reduceBEq, Int.reduceBNe, Int.reduceEq, Int.reduceLT, Int.reduceLE, h1]; exact ⟨rfl, rfl⟩) ?_ | refine g_run ?_ | refine g_off ?_ | refine aops_nil (d_end ?_) | refine aops_nil ?_ | refine awp_seq ?_ | refine g_text ?_ | refine g_draw Tryd.mixed ?_ | refine awp_block ?_ | refine awp_skip ?_ | (refine awp_exit ?_; simp only [go_sem, Nat.reduceEqDiff]))
    refine awp_no' (by simp only [go_sem, reduceIte, reduceCtorEq, Nat.reduceAdd, Nat.reduceSub, Nat.reduceEqDiff, Nat.reduceLT, Nat.reduceLeDiff, Nat.reduceMul, ↓reduceIte, Int.reduceToNat, Int.reduceBEq, Int.reduceBNe, Int.reduceEq, Int.reduceLT, Int.reduceLE, h1]; exact Is.rfl') ?_
    repeat (first | refine aops_op' rfl (by simp only [go_sem, reduceIte, reduceCtorEq, Nat.reduceAdd, Nat.reduceSub, Nat.reduceEqDiff, Nat.reduceLT, Nat.reduceLeDiff, Nat.reduceMul, ↓reduceIte, Int.reduceToNat, Int.reduceBEq, Int.reduceBNe, Int.reduceEq, Int.reduceLT, Int.reduceLE, h1]; exact ⟨rfl, rfl⟩) ?_ | refine g_run ?_ | refine g_off ?_ | refine aops_nil (d_end ?_) | refine aops_nil ?_ | refine awp_seq ?_ | refine g_text ?_ | refine g_draw Tryd.mixed ?_ | refine awp_block ?_ | refine awp_skip ?_ | (refine awp_exit ?_; simp only [go_sem, Nat.reduceEqDiff]))
    (refine awp_ret ?_; show (resRd _ _ _).run _ = some _; simp only [go_sem, reduceIte, reduceCtorEq, Nat.reduceAdd, Nat.reduceSub, Nat.reduceEqDiff, Nat.reduceLT, Nat.reduceLeDiff, Nat.reduceMul, ↓reduceIte, Int.reduceToNat, Int.reduceBEq, Int.reduceBNe, Int.reduceEq, Int.reduceLT, Int.reduceLE, h1])
    rw [hiw, List.take_of_length_le (by rw [cut_len b at_ w hf]; omega)]
theorem w_take_no (env : Env) (b : List UInt8) (at_ w : Nat) (hb : b.length ≤ 1000000) (hw : w = 1 ∨ w = 2 ∨ w = 4 ∨ w = 8) (hf : b.length < at_ + w) (ha : at_ ≤ 2000000) : Con Tryd.prog env 69 [Bs b, I at_, I w] (.tuple [U 0, I (if b.length < at_ then 2 else 1)]) := by
  refine con_of_body Tryd.func69 rfl Tryd.call69 (by rw [Tryd.ntmps69]; simp) ?_
  rw [Tryd.ntmps69, Tryd.results69]
  have h0 : ¬ (at_ : Int) < 0 := by omega
  by_cases h : b.length < at_
  · have h1 : (b.length : Int) < (at_ : Int) := by omega
    rw [if_pos h]
    repeat (first | refine aops_op' rfl (by simp only [go_sem, reduceIte, reduceCtorEq, Nat.reduceAdd, Nat.reduceSub, Nat.reduceEqDiff, Nat.reduceLT, Nat.reduceLeDiff, Nat.reduceMul, ↓reduceIte, Int.reduceToNat, Int.reduceBEq, Int.reduceBNe, Int.reduceEq, Int.reduceLT, Int.reduceLE, h0, h1]; exact ⟨rfl, rfl⟩) ?_ | refine g_run ?_ | refine g_off ?_ | refine aops_nil (d_end ?_) | refine aops_nil ?_ | refine awp_seq ?_ | refine g_text ?_ | refine g_draw Tryd.mixed ?_ | refine awp_block ?_ | refine awp_skip ?_ | (refine awp_exit ?_; simp only [go_sem, Nat.reduceEqDiff]))
    refine aops_call' rfl (w_right_con env w hw) (by simp only [go_sem, reduceIte, reduceCtorEq, Nat.reduceAdd, Nat.reduceSub, Nat.reduceEqDiff, Nat.reduceLT, Nat.reduceLeDiff, Nat.reduceMul, ↓reduceIte, Int.reduceToNat, Int.reduceBEq, Int.reduceBNe, Int.reduceEq, Int.reduceLT, Int.reduceLE, h0, h1]; exact Is.rfl') (by simp only [go_sem, reduceIte, reduceCtorEq, Nat.reduceAdd, Nat.reduceSub, Nat.reduceEqDiff, Nat.reduceLT, Nat.reduceLeDiff, Nat.reduceMul, ↓reduceIte, Int.reduceToNat, Int.reduceBEq, Int.reduceBNe, Int.reduceEq, Int.reduceLT, Int.reduceLE, h0, h1]; exact ⟨rfl, rfl⟩) ?_
    repeat (first | refine aops_op' rfl (by simp only [go_sem, reduceIte, reduceCtorEq, Nat.reduceAdd, Nat.reduceSub, Nat.reduceEqDiff, Nat.reduceLT, Nat.reduceLeDiff, Nat.reduceMul, ↓reduceIte, Int.reduceToNat, Int.reduceBEq, Int.reduceBNe, Int.reduceEq, Int.reduceLT, Int.reduceLE, h0, h1]; exact ⟨rfl, rfl⟩) ?_ | refine g_run ?_ | refine g_off ?_ | refine aops_nil (d_end ?_) | refine aops_nil ?_ | refine awp_seq ?_ | refine g_text ?_ | refine g_draw Tryd.mixed ?_ | refine awp_block ?_ | refine awp_skip ?_ | (refine awp_exit ?_; simp only [go_sem, Nat.reduceEqDiff]))
    refine awp_yes' (by simp only [go_sem, reduceIte, reduceCtorEq, Nat.reduceAdd, Nat.reduceSub, Nat.reduceEqDiff, Nat.reduceLT, Nat.reduceLeDiff, Nat.reduceMul, ↓reduceIte, Int.reduceToNat, Int.reduceBEq, Int.reduceBNe, Int.reduceEq, Int.reduceLT, Int.reduceLE, h0, h1]; exact Is.rfl') ?_
    repeat (first | refine aops_op' rfl (by simp only [go_sem, reduceIte, reduceCtorEq, Nat.reduceAdd, Nat.reduceSub, Nat.reduceEqDiff, Nat.reduceLT, Nat.reduceLeDiff, Nat.reduceMul, ↓reduceIte, Int.reduceToNat, Int.reduceBEq, Int.reduceBNe, Int.reduceEq, Int.reduceLT, Int.reduceLE, h0, h1]; exact ⟨rfl, rfl⟩) ?_ | refine g_run ?_ | refine g_off ?_ | refine aops_nil (d_end ?_) | refine aops_nil ?_ | refine awp_seq ?_ | refine g_text ?_ | refine g_draw Tryd.mixed ?_ | refine awp_block ?_ | refine awp_skip ?_ | (refine awp_exit ?_; simp only [go_sem, Nat.reduceEqDiff]))
    (refine awp_ret ?_; show (resRd _ _ _).run _ = some _; simp only [go_sem, reduceIte, reduceCtorEq, Nat.reduceAdd, Nat.reduceSub, Nat.reduceEqDiff, Nat.reduceLT, Nat.reduceLeDiff, Nat.reduceMul, ↓reduceIte, Int.reduceToNat, Int.reduceBEq, Int.reduceBNe, Int.reduceEq, Int.reduceLT, Int.reduceLE, h0, h1])
  · have h1 : ¬ (b.length : Int) < (at_ : Int) := by omega
    have h2 : IntKind.i64.wrap ((b.length : Int) - (at_ : Int)) = ((b.length - at_ : Nat) : Int) := by rw [wrap_in (by omega) (by omega)]; omega
    have h3 : ((b.length - at_ : Nat) : Int) < (w : Int) := by omega
    rw [if_neg h]
    repeat (first | refine aops_op' rfl (by simp only [go_sem, reduceIte, reduceCtorEq, Nat.reduceAdd, Nat.reduceSub, Nat.reduceEqDiff, Nat.reduceLT, Nat.reduceLeDiff, Nat.reduceMul, ↓reduceIte, Int.reduceToNat, Int.reduceBEq, Int.reduceBNe, Int.reduceEq, Int.reduceLT, Int.reduceLE, h0, h1, h2, h3]; exact ⟨rfl, rfl⟩) ?_ | refine g_run ?_ | refine g_off ?_ | refine aops_nil (d_end ?_) | refine aops_nil ?_ | refine awp_seq ?_ | refine g_text ?_ | refine g_draw Tryd.mixed ?_ | refine awp_block ?_ | refine awp_skip ?_ | (refine awp_exit ?_; simp only [go_sem, Nat.reduceEqDiff]))
    refine aops_call' rfl (w_right_con env w hw) (by simp only [go_sem, reduceIte, reduceCtorEq, Nat.reduceAdd, Nat.reduceSub, Nat.reduceEqDiff, Nat.reduceLT, Nat.reduceLeDiff, Nat.reduceMul, ↓reduceIte, Int.reduceToNat, Int.reduceBEq, Int.reduceBNe, Int.reduceEq, Int.reduceLT, Int.reduceLE, h0, h1, h2, h3]; exact Is.rfl') (by simp only [go_sem, reduceIte, reduceCtorEq, Nat.reduceAdd, Nat.reduceSub, Nat.reduceEqDiff, Nat.reduceLT, Nat.reduceLeDiff, Nat.reduceMul, ↓reduceIte, Int.reduceToNat, Int.reduceBEq, Int.reduceBNe, Int.reduceEq, Int.reduceLT, Int.reduceLE, h0, h1, h2, h3]; exact ⟨rfl, rfl⟩) ?_
    repeat (first | refine aops_op' rfl (by simp only [go_sem, reduceIte, reduceCtorEq, Nat.reduceAdd, Nat.reduceSub, Nat.reduceEqDiff, Nat.reduceLT, Nat.reduceLeDiff, Nat.reduceMul, ↓reduceIte, Int.reduceToNat, Int.reduceBEq, Int.reduceBNe, Int.reduceEq, Int.reduceLT, Int.reduceLE, h0, h1, h2, h3]; exact ⟨rfl, rfl⟩) ?_ | refine g_run ?_ | refine g_off ?_ | refine aops_nil (d_end ?_) | refine aops_nil ?_ | refine awp_seq ?_ | refine g_text ?_ | refine g_draw Tryd.mixed ?_ | refine awp_block ?_ | refine awp_skip ?_ | (refine awp_exit ?_; simp only [go_sem, Nat.reduceEqDiff]))
    refine awp_no' (by simp only [go_sem, reduceIte, reduceCtorEq, Nat.reduceAdd, Nat.reduceSub, Nat.reduceEqDiff, Nat.reduceLT, Nat.reduceLeDiff, Nat.reduceMul, ↓reduceIte, Int.reduceToNat, Int.reduceBEq, Int.reduceBNe, Int.reduceEq, Int.reduceLT, Int.reduceLE, h0, h1, h2, h3]; exact Is.rfl') ?_
    repeat (first | refine aops_op' rfl (by simp only [go_sem, reduceIte, reduceCtorEq, Nat.reduceAdd, Nat.reduceSub, Nat.reduceEqDiff, Nat.reduceLT, Nat.reduceLeDiff, Nat.reduceMul, ↓reduceIte, Int.reduceToNat, Int.reduceBEq, Int.reduceBNe, Int.reduceEq, Int.reduceLT, Int.reduceLE, h0, h1, h2, h3]; exact ⟨rfl, rfl⟩) ?_ | refine g_run ?_ | refine g_off ?_ | refine aops_nil (d_end ?_) | refine aops_nil ?_ | refine awp_seq ?_ | refine g_text ?_ | refine g_draw Tryd.mixed ?_ | refine awp_block ?_ | refine awp_skip ?_ | (refine awp_exit ?_; simp only [go_sem, Nat.reduceEqDiff]))
    refine awp_yes' (by simp only [go_sem, reduceIte, reduceCtorEq, Nat.reduceAdd, Nat.reduceSub, Nat.reduceEqDiff, Nat.reduceLT, Nat.reduceLeDiff, Nat.reduceMul, ↓reduceIte, Int.reduceToNat, Int.reduceBEq, Int.reduceBNe, Int.reduceEq, Int.reduceLT, Int.reduceLE, h0, h1, h2, h3]; exact Is.rfl') ?_
    repeat (first | refine aops_op' rfl (by simp only [go_sem, reduceIte, reduceCtorEq, Nat.reduceAdd, Nat.reduceSub, Nat.reduceEqDiff, Nat.reduceLT, Nat.reduceLeDiff, Nat.reduceMul, ↓reduceIte, Int.reduceToNat, Int.reduceBEq, Int.reduceBNe, Int.reduceEq, Int.reduceLT, Int.reduceLE, h0, h1, h2, h3]; exact ⟨rfl, rfl⟩) ?_ | refine g_run ?_ | refine g_off ?_ | refine aops_nil (d_end ?_) | refine aops_nil ?_ | refine awp_seq ?_ | refine g_text ?_ | refine g_draw Tryd.mixed ?_ | refine awp_block ?_ | refine awp_skip ?_ | (refine awp_exit ?_; simp only [go_sem, Nat.reduceEqDiff]))
    (refine awp_ret ?_; show (resRd _ _ _).run _ = some _; simp only [go_sem, reduceIte, reduceCtorEq, Nat.reduceAdd, Nat.reduceSub, Nat.reduceEqDiff, Nat.reduceLT, Nat.reduceLeDiff, Nat.reduceMul, ↓reduceIte, Int.reduceToNat, Int.reduceBEq, Int.reduceBNe, Int.reduceEq, Int.reduceLT, Int.reduceLE, h0, h1, h2, h3])
set_option maxRecDepth 100000
set_option maxHeartbeats 1000000

theorem low_byte_i (n : Nat) : IntKind.u8.wrap (((n % 256 : Nat) : Int)) = ((UInt8.ofNat n).toNat : Int) := by
  rw [IntWalk.u8_in _ (by omega)]
  simp
theorem hi_byte (n : Nat) (h : n < 65536) : IntKind.u8.wrap (IntKind.i64.wrap ((n : Int).tdiv 256)) = ((UInt8.ofNat (n / 256)).toNat : Int) := by
  rw [show (n : Int).tdiv 256 = ((n / 256 : Nat) : Int) from rfl, wrap_in (by omega) (by omega), IntWalk.u8_in _ (by omega)]
  simp
  omega
theorem i64n (a b : Nat) (h : a + b < 9223372036854775808) : IntKind.i64.wrap ((a : Int) + (b : Int)) = ((a + b : Nat) : Int) := by rw [wrap_in (by omega) (by omega)]; rfl
theorem u64n (a : Nat) (h : a < 18446744073709551616) : IntKind.u64.wrap (a : Int) = (a : Int) := IntWalk.u64_in _ (by omega)
theorem i64m (a b : Nat) (h : b ≤ a) (h' : a < 9223372036854775808) : IntKind.i64.wrap ((a : Int) - (b : Int)) = ((a - b : Nat) : Int) := by rw [wrap_in (by omega) (by omega)]; omega
theorem w_putText_con (env : Env) (b s : List UInt8) (hb : b.length ≤ 1000000) (hs : s.length ≤ 65535) : Con Tryd.prog env 97 [Bs b, Sg s] (.tuple [Bs (b ++ lowB 2 s.length ++ s), I 0]) := by
  refine con_of_body Tryd.func97 rfl Tryd.call97 (by rw [Tryd.ntmps97]; simp) ?_
  rw [Tryd.ntmps97, Tryd.results97]
  have h1 : ¬ 65535 < (s.length : Int) := by omega
  have hf0 : Fits b.length 1 := ⟨by omega, by omega⟩
  have hf1 : Fits (b.length + 2) 1 := ⟨by omega, by omega⟩
  have hf2 : Fits (b.length + 2 + s.length) 1 := ⟨by omega, by omega⟩
  have hl := low_byte s.length
  have hh := hi_byte s.length (by omega)
  repeat (first | refine aops_op' rfl (by simp only [go_sem, reduceIte, reduceCtorEq, Nat.reduceAdd, Nat.reduceSub, Nat.reduceEqDiff, Nat.reduceLT, Nat.reduceLeDiff, Nat.reduceMul, ↓reduceIte, Int.reduceToNat, Int.reduceBEq, Int.reduceBNe, Int.reduceEq, Int.reduceLT, Int.reduceLE, h1, hf0, hf1, hf2, hl, hh]; exact ⟨rfl, rfl⟩) ?_ | refine g_run ?_ | refine g_off ?_ | refine aops_nil (d_end ?_) | refine aops_nil ?_ | refine awp_seq ?_ | refine g_text ?_ | refine g_draw Tryd.mixed ?_ | refine awp_block ?_ | refine awp_skip ?_ | (refine awp_exit ?_; simp only [go_sem, Nat.reduceEqDiff]))
  refine awp_no' (by simp only [go_sem, reduceIte, reduceCtorEq, Nat.reduceAdd, Nat.reduceSub, Nat.reduceEqDiff, Nat.reduceLT, Nat.reduceLeDiff, Nat.reduceMul, ↓reduceIte, Int.reduceToNat, Int.reduceBEq, Int.reduceBNe, Int.reduceEq, Int.reduceLT, Int.reduceLE, h1, hf0, hf1, hf2, hl, hh]; exact Is.rfl') ?_
  repeat (first | refine aops_op' rfl (by simp only [go_sem, reduceIte, reduceCtorEq, Nat.reduceAdd, Nat.reduceSub, Nat.reduceEqDiff, Nat.reduceLT, Nat.reduceLeDiff, Nat.reduceMul, ↓reduceIte, Int.reduceToNat, Int.reduceBEq, Int.reduceBNe, Int.reduceEq, Int.reduceLT, Int.reduceLE, h1, hf0, hf1, hf2, hl, hh]; exact ⟨rfl, rfl⟩) ?_ | refine g_run ?_ | refine g_off ?_ | refine aops_nil (d_end ?_) | refine aops_nil ?_ | refine awp_seq ?_ | refine g_text ?_ | refine g_draw Tryd.mixed ?_ | refine awp_block ?_ | refine awp_skip ?_ | (refine awp_exit ?_; simp only [go_sem, Nat.reduceEqDiff]))
  (refine awp_ret ?_; show (resRd _ _ _).run _ = some _; simp only [go_sem, reduceIte, reduceCtorEq, Nat.reduceAdd, Nat.reduceSub, Nat.reduceEqDiff, Nat.reduceLT, Nat.reduceLeDiff, Nat.reduceMul, ↓reduceIte, Int.reduceToNat, Int.reduceBEq, Int.reduceBNe, Int.reduceEq, Int.reduceLT, Int.reduceLE, h1, hf0, hf1, hf2, hl, hh])
  simp [lowB, List.range_succ, bAV]
theorem w_takeText_yes (env : Env) (b : List UInt8) (at_ : Nat) (hb : b.length ≤ 1000000) (h2 : at_ + 2 ≤ b.length) (hf : at_ + 2 + valLE (cut b at_ 2) ≤ b.length) : Con Tryd.prog env 135 [Bs b, I at_] (.tuple [Sg (cut b (at_ + 2) (valLE (cut b at_ 2))), I ((at_ + 2 + valLE (cut b at_ 2) : Nat) : Int), I 0]) := by
  refine con_of_body Tryd.func135 rfl Tryd.call135 (by rw [Tryd.ntmps135]; simp) ?_
  rw [Tryd.ntmps135, Tryd.results135]
  repeat (first | refine aops_op' rfl (by simp only [go_sem, reduceIte, reduceCtorEq, Nat.reduceAdd, Nat.reduceSub, Nat.reduceEqDiff, Nat.reduceLT, Nat.reduceLeDiff, Nat.reduceMul, ↓reduceIte, Int.reduceToNat, Int.reduceBEq, Int.reduceBNe, Int.reduceEq, Int.reduceLT, Int.reduceLE]; exact ⟨rfl, rfl⟩) ?_ | refine g_run ?_ | refine g_off ?_ | refine aops_nil (d_end ?_) | refine aops_nil ?_ | refine awp_seq ?_ | refine g_text ?_ | refine g_draw Tryd.mixed ?_ | refine awp_block ?_ | refine awp_skip ?_ | (refine awp_exit ?_; simp only [go_sem, Nat.reduceEqDiff]))
  refine aops_call' rfl (w_take_yes env b at_ 2 hb (by omega) h2) (by simp only [go_sem, reduceIte, reduceCtorEq, Nat.reduceAdd, Nat.reduceSub, Nat.reduceEqDiff, Nat.reduceLT, Nat.reduceLeDiff, Nat.reduceMul, ↓reduceIte, Int.reduceToNat, Int.reduceBEq, Int.reduceBNe, Int.reduceEq, Int.reduceLT, Int.reduceLE]; exact Is.rfl') (by simp only [go_sem, reduceIte, reduceCtorEq, Nat.reduceAdd, Nat.reduceSub, Nat.reduceEqDiff, Nat.reduceLT, Nat.reduceLeDiff, Nat.reduceMul, ↓reduceIte, Int.reduceToNat, Int.reduceBEq, Int.reduceBNe, Int.reduceEq, Int.reduceLT, Int.reduceLE]; exact ⟨rfl, rfl⟩) ?_
  unfold cut
  generalize hn : valLE ((b.drop at_).take 2) = n at *
  rw [show valLE (cut b at_ 2) = n from hn] at hf
  have g1 := i64m b.length at_ (by omega) (by omega)
  have g2 : IntKind.i64.wrap (((b.length - at_ : Nat) : Int) - 2) = ((b.length - at_ - 2 : Nat) : Int) := i64m (b.length - at_) 2 (by omega) (by omega)
  have g3 := u64n (b.length - at_ - 2) (by omega)
  have g4 : ¬ ((b.length - at_ - 2 : Nat) : Int) < (n : Int) := by omega
  have g5 : IntKind.i64.wrap ((at_ : Int) + 2) = ((at_ + 2 : Nat) : Int) := i64n at_ 2 (by omega)
  have g6 := i64n (at_ + 2) n (by omega)
  have g7 : IntKind.i64.wrap (n : Int) = (n : Int) := wrap_in (by omega) (by omega)
  have g8 : ((at_ + 2 + n : Nat) : Int) ≤ (b.length : Int) := by omega
  have g9 : ((at_ + 2 : Nat) : Int) ≤ ((at_ + 2 + n : Nat) : Int) := by omega
  repeat (first | refine aops_op' rfl (by simp only [go_sem, reduceIte, reduceCtorEq, Nat.reduceAdd, Nat.reduceSub, Nat.reduceEqDiff, Nat.reduceLT, Nat.reduceLeDiff, Nat.reduceMul, ↓reduceIte, Int.reduceToNat, Int.reduceBEq, Int.reduceBNe, Int.reduceEq, Int.reduceLT, Int.reduceLE, g1, g2, g3, g4, g5, g6, g7, g8, g9, Nat.add_sub_cancel_left]; exact ⟨rfl, rfl⟩) ?_ | refine g_run ?_ | refine g_off ?_ | refine aops_nil (d_end ?_) | refine aops_nil ?_ | refine awp_seq ?_ | refine g_text ?_ | refine g_draw Tryd.mixed ?_ | refine awp_block ?_ | refine awp_skip ?_ | (refine awp_exit ?_; simp only [go_sem, Nat.reduceEqDiff]))
  refine awp_no' (by simp only [go_sem, reduceIte, reduceCtorEq, Nat.reduceAdd, Nat.reduceSub, Nat.reduceEqDiff, Nat.reduceLT, Nat.reduceLeDiff, Nat.reduceMul, ↓reduceIte, Int.reduceToNat, Int.reduceBEq, Int.reduceBNe, Int.reduceEq, Int.reduceLT, Int.reduceLE, g1, g2, g3, g4, g5, g6, g7, g8, g9, Nat.add_sub_cancel_left]; exact Is.rfl') ?_
  repeat (first | refine aops_op' rfl (by simp only [go_sem, reduceIte, reduceCtorEq, Nat.reduceAdd, Nat.reduceSub, Nat.reduceEqDiff, Nat.reduceLT, Nat.reduceLeDiff, Nat.reduceMul, ↓reduceIte, Int.reduceToNat, Int.reduceBEq, Int.reduceBNe, Int.reduceEq, Int.reduceLT, Int.reduceLE, g1, g2, g3, g4, g5, g6, g7, g8, g9, Nat.add_sub_cancel_left]; exact ⟨rfl, rfl⟩) ?_ | refine g_run ?_ | refine g_off ?_ | refine aops_nil (d_end ?_) | refine aops_nil ?_ | refine awp_seq ?_ | refine g_text ?_ | refine g_draw Tryd.mixed ?_ | refine awp_block ?_ | refine awp_skip ?_ | (refine awp_exit ?_; simp only [go_sem, Nat.reduceEqDiff]))
  refine awp_no' (by simp only [go_sem, reduceIte, reduceCtorEq, Nat.reduceAdd, Nat.reduceSub, Nat.reduceEqDiff, Nat.reduceLT, Nat.reduceLeDiff, Nat.reduceMul, ↓reduceIte, Int.reduceToNat, Int.reduceBEq, Int.reduceBNe, Int.reduceEq, Int.reduceLT, Int.reduceLE, g1, g2, g3, g4, g5, g6, g7, g8, g9, Nat.add_sub_cancel_left]; exact Is.rfl') ?_
  repeat (first | refine aops_op' rfl (by simp only [go_sem, reduceIte, reduceCtorEq, Nat.reduceAdd, Nat.reduceSub, Nat.reduceEqDiff, Nat.reduceLT, Nat.reduceLeDiff, Nat.reduceMul, ↓reduceIte, Int.reduceToNat, Int.reduceBEq, Int.reduceBNe, Int.reduceEq, Int.reduceLT, Int.reduceLE, g1, g2, g3, g4, g5, g6, g7, g8, g9, Nat.add_sub_cancel_left]; exact ⟨rfl, rfl⟩) ?_ | refine g_run ?_ | refine g_off ?_ | refine aops_nil (d_end ?_) | refine aops_nil ?_ | refine awp_seq ?_ | refine g_text ?_ | refine g_draw Tryd.mixed ?_ | refine awp_block ?_ | refine awp_skip ?_ | (refine awp_exit ?_; simp only [go_sem, Nat.reduceEqDiff]))
  (refine awp_ret ?_; show (resRd _ _ _).run _ = some _; simp only [go_sem, reduceIte, reduceCtorEq, Nat.reduceAdd, Nat.reduceSub, Nat.reduceEqDiff, Nat.reduceLT, Nat.reduceLeDiff, Nat.reduceMul, ↓reduceIte, Int.reduceToNat, Int.reduceBEq, Int.reduceBNe, Int.reduceEq, Int.reduceLT, Int.reduceLE, g1, g2, g3, g4, g5, g6, g7, g8, g9, Nat.add_sub_cancel_left])
theorem w_takeText_no (env : Env) (b : List UInt8) (at_ : Nat) (hb : b.length ≤ 1000000) (ha : at_ ≤ 1000000) (hf : ¬ (at_ + 2 ≤ b.length ∧ at_ + 2 + valLE (cut b at_ 2) ≤ b.length)) : Con Tryd.prog env 135 [Bs b, I at_] (.tuple [Sg [], I 0, I (if b.length < at_ then 2 else 1)]) := by
  refine con_of_body Tryd.func135 rfl Tryd.call135 (by rw [Tryd.ntmps135]; simp) ?_
  rw [Tryd.ntmps135, Tryd.results135]
  by_cases h2 : at_ + 2 ≤ b.length
  · rw [if_neg (by omega)]
    repeat (first | refine aops_op' rfl (by simp only [go_sem, reduceIte, reduceCtorEq, Nat.reduceAdd, Nat.reduceSub, Nat.reduceEqDiff, Nat.reduceLT, Nat.reduceLeDiff, Nat.reduceMul, ↓reduceIte, Int.reduceToNat, Int.reduceBEq, Int.reduceBNe, Int.reduceEq, Int.reduceLT, Int.reduceLE]; exact ⟨rfl, rfl⟩) ?_ | refine g_run ?_ | refine g_off ?_ | refine aops_nil (d_end ?_) | refine aops_nil ?_ | refine awp_seq ?_ | refine g_text ?_ | refine g_draw Tryd.mixed ?_ | refine awp_block ?_ | refine awp_skip ?_ | (refine awp_exit ?_; simp only [go_sem, Nat.reduceEqDiff]))
    refine aops_call' rfl (w_take_yes env b at_ 2 hb (by omega) h2) (by simp only [go_sem, reduceIte, reduceCtorEq, Nat.reduceAdd, Nat.reduceSub, Nat.reduceEqDiff, Nat.reduceLT, Nat.reduceLeDiff, Nat.reduceMul, ↓reduceIte, Int.reduceToNat, Int.reduceBEq, Int.reduceBNe, Int.reduceEq, Int.reduceLT, Int.reduceLE]; exact Is.rfl') (by simp only [go_sem, reduceIte, reduceCtorEq, Nat.reduceAdd, Nat.reduceSub, Nat.reduceEqDiff, Nat.reduceLT, Nat.reduceLeDiff, Nat.reduceMul, ↓reduceIte, Int.reduceToNat, Int.reduceBEq, Int.reduceBNe, Int.reduceEq, Int.reduceLT, Int.reduceLE]; exact ⟨rfl, rfl⟩) ?_
    generalize hn : valLE (cut b at_ 2) = n at *
    have hlt : n < 65536 := by
      have := valLE_lt (cut b at_ 2)
      rw [hn, cut_len b at_ 2 h2] at this
      exact this
    have g1 := i64m b.length at_ (by omega) (by omega)
    have g2 : IntKind.i64.wrap (((b.length - at_ : Nat) : Int) - 2) = ((b.length - at_ - 2 : Nat) : Int) := i64m (b.length - at_) 2 (by omega) (by omega)
    have g3 := u64n (b.length - at_ - 2) (by omega)
    have g4 : ((b.length - at_ - 2 : Nat) : Int) < (n : Int) := by omega
    repeat (first | refine aops_op' rfl (by simp only [go_sem, reduceIte, reduceCtorEq, Nat.reduceAdd, Nat.reduceSub, Nat.reduceEqDiff, Nat.reduceLT, Nat.reduceLeDiff, Nat.reduceMul, ↓reduceIte, Int.reduceToNat, Int.reduceBEq, Int.reduceBNe, Int.reduceEq, Int.reduceLT, Int.reduceLE, g1, g2, g3, g4]; exact ⟨rfl, rfl⟩) ?_ | refine g_run ?_ | refine g_off ?_ | refine aops_nil (d_end ?_) | refine aops_nil ?_ | refine awp_seq ?_ | refine g_text ?_ | refine g_draw Tryd.mixed ?_ | refine awp_block ?_ | refine awp_skip ?_ | (refine awp_exit ?_; simp only [go_sem, Nat.reduceEqDiff]))
    refine awp_no' (by simp only [go_sem, reduceIte, reduceCtorEq, Nat.reduceAdd, Nat.reduceSub, Nat.reduceEqDiff, Nat.reduceLT, Nat.reduceLeDiff, Nat.reduceMul, ↓reduceIte, Int.reduceToNat, Int.reduceBEq, Int.reduceBNe, Int.reduceEq, Int.reduceLT, Int.reduceLE, g1, g2, g3, g4]; exact Is.rfl') ?_
    repeat (first | refine aops_op' rfl (by simp only [go_sem, reduceIte, reduceCtorEq, Nat.reduceAdd, Nat.reduceSub, Nat.reduceEqDiff, Nat.reduceLT, Nat.reduceLeDiff, Nat.reduceMul, ↓reduceIte, Int.reduceToNat, Int.reduceBEq, Int.reduceBNe, Int.reduceEq, Int.reduceLT, Int.reduceLE, g1, g2, g3, g4]; exact ⟨rfl, rfl⟩) ?_ | refine g_run ?_ | refine g_off ?_ | refine aops_nil (d_end ?_) | refine aops_nil ?_ | refine awp_seq ?_ | refine g_text ?_ | refine g_draw Tryd.mixed ?_ | refine awp_block ?_ | refine awp_skip ?_ | (refine awp_exit ?_; simp only [go_sem, Nat.reduceEqDiff]))
    refine awp_yes' (by simp only [go_sem, reduceIte, reduceCtorEq, Nat.reduceAdd, Nat.reduceSub, Nat.reduceEqDiff, Nat.reduceLT, Nat.reduceLeDiff, Nat.reduceMul, ↓reduceIte, Int.reduceToNat, Int.reduceBEq, Int.reduceBNe, Int.reduceEq, Int.reduceLT, Int.reduceLE, g1, g2, g3, g4]; exact Is.rfl') ?_
    repeat (first | refine aops_op' rfl (by simp only [go_sem, reduceIte, reduceCtorEq, Nat.reduceAdd, Nat.reduceSub, Nat.reduceEqDiff, Nat.reduceLT, Nat.reduceLeDiff, Nat.reduceMul, ↓reduceIte, Int.reduceToNat, Int.reduceBEq, Int.reduceBNe, Int.reduceEq, Int.reduceLT, Int.reduceLE, g1, g2, g3, g4]; exact ⟨rfl, rfl⟩) ?_ | refine g_run ?_ | refine g_off ?_ | refine aops_nil (d_end ?_) | refine aops_nil ?_ | refine awp_seq ?_ | refine g_text ?_ | refine g_draw Tryd.mixed ?_ | refine awp_block ?_ | refine awp_skip ?_ | (refine awp_exit ?_; simp only [go_sem, Nat.reduceEqDiff]))
    (refine awp_ret ?_; show (resRd _ _ _).run _ = some _; simp only [go_sem, reduceIte, reduceCtorEq, Nat.reduceAdd, Nat.reduceSub, Nat.reduceEqDiff, Nat.reduceLT, Nat.reduceLeDiff, Nat.reduceMul, ↓reduceIte, Int.reduceToNat, Int.reduceBEq, Int.reduceBNe, Int.reduceEq, Int.reduceLT, Int.reduceLE, g1, g2, g3, g4])
  ·
    repeat (first | refine aops_op' rfl (by simp only [go_sem, reduceIte, reduceCtorEq, Nat.reduceAdd, Nat.reduceSub, Nat.reduceEqDiff, Nat.reduceLT, Nat.reduceLeDiff, Nat.reduceMul, ↓reduceIte, Int.reduceToNat, Int.reduceBEq, Int.reduceBNe, Int.reduceEq, Int.reduceLT, Int.reduceLE]; exact ⟨rfl, rfl⟩) ?_ | refine g_run ?_ | refine g_off ?_ | refine aops_nil (d_end ?_) | refine aops_nil ?_ | refine awp_seq ?_ | refine g_text ?_ | refine g_draw Tryd.mixed ?_ | refine awp_block ?_ | refine awp_skip ?_ | (refine awp_exit ?_; simp only [go_sem, Nat.reduceEqDiff]))
    refine aops_call' rfl (w_take_no env b at_ 2 hb (by omega) (by omega) (by omega)) (by simp only [go_sem, reduceIte, reduceCtorEq, Nat.reduceAdd, Nat.reduceSub, Nat.reduceEqDiff, Nat.reduceLT, Nat.reduceLeDiff, Nat.reduceMul, ↓reduceIte, Int.reduceToNat, Int.reduceBEq, Int.reduceBNe, Int.reduceEq, Int.reduceLT, Int.reduceLE]; exact Is.rfl') (by simp only [go_sem, reduceIte, reduceCtorEq, Nat.reduceAdd, Nat.reduceSub, Nat.reduceEqDiff, Nat.reduceLT, Nat.reduceLeDiff, Nat.reduceMul, ↓reduceIte, Int.reduceToNat, Int.reduceBEq, Int.reduceBNe, Int.reduceEq, Int.reduceLT, Int.reduceLE]; exact ⟨rfl, rfl⟩) ?_
    by_cases h : b.length < at_
    ·
      repeat (first | refine aops_op' rfl (by simp only [go_sem, reduceIte, reduceCtorEq, Nat.reduceAdd, Nat.reduceSub, Nat.reduceEqDiff, Nat.reduceLT, Nat.reduceLeDiff, Nat.reduceMul, ↓reduceIte, Int.reduceToNat, Int.reduceBEq, Int.reduceBNe, Int.reduceEq, Int.reduceLT, Int.reduceLE, h]; exact ⟨rfl, rfl⟩) ?_ | refine g_run ?_ | refine g_off ?_ | refine aops_nil (d_end ?_) | refine aops_nil ?_ | refine awp_seq ?_ | refine g_text ?_ | refine g_draw Tryd.mixed ?_ | refine awp_block ?_ | refine awp_skip ?_ | (refine awp_exit ?_; simp only [go_sem, Nat.reduceEqDiff]))
      refine awp_yes' (by simp only [go_sem, reduceIte, reduceCtorEq, Nat.reduceAdd, Nat.reduceSub, Nat.reduceEqDiff, Nat.reduceLT, Nat.reduceLeDiff, Nat.reduceMul, ↓reduceIte, Int.reduceToNat, Int.reduceBEq, Int.reduceBNe, Int.reduceEq, Int.reduceLT, Int.reduceLE, h]; exact Is.rfl') ?_
      repeat (first | refine aops_op' rfl (by simp only [go_sem, reduceIte, reduceCtorEq, Nat.reduceAdd, Nat.reduceSub, Nat.reduceEqDiff, Nat.reduceLT, Nat.reduceLeDiff, Nat.reduceMul, ↓reduceIte, Int.reduceToNat, Int.reduceBEq, Int.reduceBNe, Int.reduceEq, Int.reduceLT, Int.reduceLE, h]; exact ⟨rfl, rfl⟩) ?_ | refine g_run ?_ | refine g_off ?_ | refine aops_nil (d_end ?_) | refine aops_nil ?_ | refine awp_seq ?_ | refine g_text ?_ | refine g_draw Tryd.mixed ?_ | refine awp_block ?_ | refine awp_skip ?_ | (refine awp_exit ?_; simp only [go_sem, Nat.reduceEqDiff]))
      (refine awp_ret ?_; show (resRd _ _ _).run _ = some _; simp only [go_sem, reduceIte, reduceCtorEq, Nat.reduceAdd, Nat.reduceSub, Nat.reduceEqDiff, Nat.reduceLT, Nat.reduceLeDiff, Nat.reduceMul, ↓reduceIte, Int.reduceToNat, Int.reduceBEq, Int.reduceBNe, Int.reduceEq, Int.reduceLT, Int.reduceLE, h])
    ·
      repeat (first | refine aops_op' rfl (by simp only [go_sem, reduceIte, reduceCtorEq, Nat.reduceAdd, Nat.reduceSub, Nat.reduceEqDiff, Nat.reduceLT, Nat.reduceLeDiff, Nat.reduceMul, ↓reduceIte, Int.reduceToNat, Int.reduceBEq, Int.reduceBNe, Int.reduceEq, Int.reduceLT, Int.reduceLE, h]; exact ⟨rfl, rfl⟩) ?_ | refine g_run ?_ | refine g_off ?_ | refine aops_nil (d_end ?_) | refine aops_nil ?_ | refine awp_seq ?_ | refine g_text ?_ | refine g_draw Tryd.mixed ?_ | refine awp_block ?_ | refine awp_skip ?_ | (refine awp_exit ?_; simp only [go_sem, Nat.reduceEqDiff]))
      refine awp_yes' (by simp only [go_sem, reduceIte, reduceCtorEq, Nat.reduceAdd, Nat.reduceSub, Nat.reduceEqDiff, Nat.reduceLT, Nat.reduceLeDiff, Nat.reduceMul, ↓reduceIte, Int.reduceToNat, Int.reduceBEq, Int.reduceBNe, Int.reduceEq, Int.reduceLT, Int.reduceLE, h]; exact Is.rfl') ?_
      repeat (first | refine aops_op' rfl (by simp only [go_sem, reduceIte, reduceCtorEq, Nat.reduceAdd, Nat.reduceSub, Nat.reduceEqDiff, Nat.reduceLT, Nat.reduceLeDiff, Nat.reduceMul, ↓reduceIte, Int.reduceToNat, Int.reduceBEq, Int.reduceBNe, Int.reduceEq, Int.reduceLT, Int.reduceLE, h]; exact ⟨rfl, rfl⟩) ?_ | refine g_run ?_ | refine g_off ?_ | refine aops_nil (d_end ?_) | refine aops_nil ?_ | refine awp_seq ?_ | refine g_text ?_ | refine g_draw Tryd.mixed ?_ | refine awp_block ?_ | refine awp_skip ?_ | (refine awp_exit ?_; simp only [go_sem, Nat.reduceEqDiff]))
      (refine awp_ret ?_; show (resRd _ _ _).run _ = some _; simp only [go_sem, reduceIte, reduceCtorEq, Nat.reduceAdd, Nat.reduceSub, Nat.reduceEqDiff, Nat.reduceLT, Nat.reduceLeDiff, Nat.reduceMul, ↓reduceIte, Int.reduceToNat, Int.reduceBEq, Int.reduceBNe, Int.reduceEq, Int.reduceLT, Int.reduceLE, h])
theorem w_letter_con (env : Env) (c : UInt8) : Con Tryd.prog env 120 [.lit (.int .u8 (c.toNat : Int))] (B (letterI c.toNat)) := by
  refine con_of_body Tryd.func120 rfl Tryd.call120 (by rw [Tryd.ntmps120]; simp) ?_
  rw [Tryd.ntmps120, Tryd.results120]
  have hc := c.toNat_lt
  generalize c.toNat = n at *
  unfold letterI
  by_cases h1 : (n : Int) = 95
  · have e : decide ((n : Int) = 95 ∨ (97 ≤ (n : Int) ∧ (n : Int) ≤ 122) ∨ (65 ≤ (n : Int) ∧ (n : Int) ≤ 90)) = true := by simp; omega
    rw [e]
    have h1 : ((n : Int) == 95) = true := by simp; omega
    repeat (first | refine aops_op' rfl (by simp only [go_sem, reduceIte, reduceCtorEq, Nat.reduceAdd, Nat.reduceSub, Nat.reduceEqDiff, Nat.reduceLT, Nat.reduceLeDiff, Nat.reduceMul, ↓reduceIte, Int.reduceToNat, Int.reduceBEq, Int.reduceBNe, Int.reduceEq, Int.reduceLT, Int.reduceLE, h1]; exact ⟨rfl, rfl⟩) ?_ | refine g_run ?_ | refine g_off ?_ | refine aops_nil (d_end ?_) | refine aops_nil ?_ | refine awp_seq ?_ | refine g_text ?_ | refine g_draw Tryd.mixed ?_ | refine awp_block ?_ | refine awp_skip ?_ | (refine awp_exit ?_; simp only [go_sem, Nat.reduceEqDiff]))
    (refine awp_ret ?_; show (resRd _ _ _).run _ = some _; simp only [go_sem, reduceIte, reduceCtorEq, Nat.reduceAdd, Nat.reduceSub, Nat.reduceEqDiff, Nat.reduceLT, Nat.reduceLeDiff, Nat.reduceMul, ↓reduceIte, Int.reduceToNat, Int.reduceBEq, Int.reduceBNe, Int.reduceEq, Int.reduceLT, Int.reduceLE, h1])
  · have h1' : ((n : Int) == 95) = false := by simp; omega
    by_cases h2 : (97 : Int) ≤ (n : Int)
    · by_cases h3 : (n : Int) ≤ 122
      · have e : decide ((n : Int) = 95 ∨ (97 ≤ (n : Int) ∧ (n : Int) ≤ 122) ∨ (65 ≤ (n : Int) ∧ (n : Int) ≤ 90)) = true := by simp; omega
        rw [e]
        repeat (first | refine aops_op' rfl (by simp only [go_sem, reduceIte, reduceCtorEq, Nat.reduceAdd, Nat.reduceSub, Nat.reduceEqDiff, Nat.reduceLT, Nat.reduceLeDiff, Nat.reduceMul, ↓reduceIte, Int.reduceToNat, Int.reduceBEq, Int.reduceBNe, Int.reduceEq, Int.reduceLT, Int.reduceLE, h1', h2, h3]; exact ⟨rfl, rfl⟩) ?_ | refine g_run ?_ | refine g_off ?_ | refine aops_nil (d_end ?_) | refine aops_nil ?_ | refine awp_seq ?_ | refine g_text ?_ | refine g_draw Tryd.mixed ?_ | refine awp_block ?_ | refine awp_skip ?_ | (refine awp_exit ?_; simp only [go_sem, Nat.reduceEqDiff]))
        (refine awp_ret ?_; show (resRd _ _ _).run _ = some _; simp only [go_sem, reduceIte, reduceCtorEq, Nat.reduceAdd, Nat.reduceSub, Nat.reduceEqDiff, Nat.reduceLT, Nat.reduceLeDiff, Nat.reduceMul, ↓reduceIte, Int.reduceToNat, Int.reduceBEq, Int.reduceBNe, Int.reduceEq, Int.reduceLT, Int.reduceLE, h1', h2, h3])
      · have e : decide ((n : Int) = 95 ∨ (97 ≤ (n : Int) ∧ (n : Int) ≤ 122) ∨ (65 ≤ (n : Int) ∧ (n : Int) ≤ 90)) = false := by simp; omega
        have h4 : (65 : Int) ≤ (n : Int) := by omega
        have h5 : ¬ (n : Int) ≤ 90 := by omega
        rw [e]
        repeat (first | refine aops_op' rfl (by simp only [go_sem, reduceIte, reduceCtorEq, Nat.reduceAdd, Nat.reduceSub, Nat.reduceEqDiff, Nat.reduceLT, Nat.reduceLeDiff, Nat.reduceMul, ↓reduceIte, Int.reduceToNat, Int.reduceBEq, Int.reduceBNe, Int.reduceEq, Int.reduceLT, Int.reduceLE, h1', h2, h3, h4, h5]; exact ⟨rfl, rfl⟩) ?_ | refine g_run ?_ | refine g_off ?_ | refine aops_nil (d_end ?_) | refine aops_nil ?_ | refine awp_seq ?_ | refine g_text ?_ | refine g_draw Tryd.mixed ?_ | refine awp_block ?_ | refine awp_skip ?_ | (refine awp_exit ?_; simp only [go_sem, Nat.reduceEqDiff]))
        (refine awp_ret ?_; show (resRd _ _ _).run _ = some _; simp only [go_sem, reduceIte, reduceCtorEq, Nat.reduceAdd, Nat.reduceSub, Nat.reduceEqDiff, Nat.reduceLT, Nat.reduceLeDiff, Nat.reduceMul, ↓reduceIte, Int.reduceToNat, Int.reduceBEq, Int.reduceBNe, Int.reduceEq, Int.reduceLT, Int.reduceLE, h1', h2, h3, h4, h5])
    · by_cases h4 : (65 : Int) ≤ (n : Int)
      · by_cases h5 : (n : Int) ≤ 90
        · have e : decide ((n : Int) = 95 ∨ (97 ≤ (n : Int) ∧ (n : Int) ≤ 122) ∨ (65 ≤ (n : Int) ∧ (n : Int) ≤ 90)) = true := by simp; omega
          rw [e]
          repeat (first | refine aops_op' rfl (by simp only [go_sem, reduceIte, reduceCtorEq, Nat.reduceAdd, Nat.reduceSub, Nat.reduceEqDiff, Nat.reduceLT, Nat.reduceLeDiff, Nat.reduceMul, ↓reduceIte, Int.reduceToNat, Int.reduceBEq, Int.reduceBNe, Int.reduceEq, Int.reduceLT, Int.reduceLE, h1', h2, h4, h5]; exact ⟨rfl, rfl⟩) ?_ | refine g_run ?_ | refine g_off ?_ | refine aops_nil (d_end ?_) | refine aops_nil ?_ | refine awp_seq ?_ | refine g_text ?_ | refine g_draw Tryd.mixed ?_ | refine awp_block ?_ | refine awp_skip ?_ | (refine awp_exit ?_; simp only [go_sem, Nat.reduceEqDiff]))
          (refine awp_ret ?_; show (resRd _ _ _).run _ = some _; simp only [go_sem, reduceIte, reduceCtorEq, Nat.reduceAdd, Nat.reduceSub, Nat.reduceEqDiff, Nat.reduceLT, Nat.reduceLeDiff, Nat.reduceMul, ↓reduceIte, Int.reduceToNat, Int.reduceBEq, Int.reduceBNe, Int.reduceEq, Int.reduceLT, Int.reduceLE, h1', h2, h4, h5])
        · have e : decide ((n : Int) = 95 ∨ (97 ≤ (n : Int) ∧ (n : Int) ≤ 122) ∨ (65 ≤ (n : Int) ∧ (n : Int) ≤ 90)) = false := by simp; omega
          rw [e]
          repeat (first | refine aops_op' rfl (by simp only [go_sem, reduceIte, reduceCtorEq, Nat.reduceAdd, Nat.reduceSub, Nat.reduceEqDiff, Nat.reduceLT, Nat.reduceLeDiff, Nat.reduceMul, ↓reduceIte, Int.reduceToNat, Int.reduceBEq, Int.reduceBNe, Int.reduceEq, Int.reduceLT, Int.reduceLE, h1', h2, h4, h5]; exact ⟨rfl, rfl⟩) ?_ | refine g_run ?_ | refine g_off ?_ | refine aops_nil (d_end ?_) | refine aops_nil ?_ | refine awp_seq ?_ | refine g_text ?_ | refine g_draw Tryd.mixed ?_ | refine awp_block ?_ | refine awp_skip ?_ | (refine awp_exit ?_; simp only [go_sem, Nat.reduceEqDiff]))
          (refine awp_ret ?_; show (resRd _ _ _).run _ = some _; simp only [go_sem, reduceIte, reduceCtorEq, Nat.reduceAdd, Nat.reduceSub, Nat.reduceEqDiff, Nat.reduceLT, Nat.reduceLeDiff, Nat.reduceMul, ↓reduceIte, Int.reduceToNat, Int.reduceBEq, Int.reduceBNe, Int.reduceEq, Int.reduceLT, Int.reduceLE, h1', h2, h4, h5])
      · have e : decide ((n : Int) = 95 ∨ (97 ≤ (n : Int) ∧ (n : Int) ≤ 122) ∨ (65 ≤ (n : Int) ∧ (n : Int) ≤ 90)) = false := by simp; omega
        rw [e]
        repeat (first | refine aops_op' rfl (by simp only [go_sem, reduceIte, reduceCtorEq, Nat.reduceAdd, Nat.reduceSub, Nat.reduceEqDiff, Nat.reduceLT, Nat.reduceLeDiff, Nat.reduceMul, ↓reduceIte, Int.reduceToNat, Int.reduceBEq, Int.reduceBNe, Int.reduceEq, Int.reduceLT, Int.reduceLE, h1', h2, h4]; exact ⟨rfl, rfl⟩) ?_ | refine g_run ?_ | refine g_off ?_ | refine aops_nil (d_end ?_) | refine aops_nil ?_ | refine awp_seq ?_ | refine g_text ?_ | refine g_draw Tryd.mixed ?_ | refine awp_block ?_ | refine awp_skip ?_ | (refine awp_exit ?_; simp only [go_sem, Nat.reduceEqDiff]))
        (refine awp_ret ?_; show (resRd _ _ _).run _ = some _; simp only [go_sem, reduceIte, reduceCtorEq, Nat.reduceAdd, Nat.reduceSub, Nat.reduceEqDiff, Nat.reduceLT, Nat.reduceLeDiff, Nat.reduceMul, ↓reduceIte, Int.reduceToNat, Int.reduceBEq, Int.reduceBNe, Int.reduceEq, Int.reduceLT, Int.reduceLE, h1', h2, h4])
theorem w_digit_con (env : Env) (c : UInt8) : Con Tryd.prog env 121 [.lit (.int .u8 (c.toNat : Int))] (B (digitI c.toNat)) := by
  refine con_of_body Tryd.func121 rfl Tryd.call121 (by rw [Tryd.ntmps121]; simp) ?_
  rw [Tryd.ntmps121, Tryd.results121]
  generalize c.toNat = n at *
  unfold digitI
  by_cases h2 : (48 : Int) ≤ (n : Int)
  · by_cases h3 : (n : Int) ≤ 57
    · rw [decide_eq_true ⟨h2, h3⟩]
      repeat (first | refine aops_op' rfl (by simp only [go_sem, reduceIte, reduceCtorEq, Nat.reduceAdd, Nat.reduceSub, Nat.reduceEqDiff, Nat.reduceLT, Nat.reduceLeDiff, Nat.reduceMul, ↓reduceIte, Int.reduceToNat, Int.reduceBEq, Int.reduceBNe, Int.reduceEq, Int.reduceLT, Int.reduceLE, h2, h3]; exact ⟨rfl, rfl⟩) ?_ | refine g_run ?_ | refine g_off ?_ | refine aops_nil (d_end ?_) | refine aops_nil ?_ | refine awp_seq ?_ | refine g_text ?_ | refine g_draw Tryd.mixed ?_ | refine awp_block ?_ | refine awp_skip ?_ | (refine awp_exit ?_; simp only [go_sem, Nat.reduceEqDiff]))
      (refine awp_ret ?_; show (resRd _ _ _).run _ = some _; simp only [go_sem, reduceIte, reduceCtorEq, Nat.reduceAdd, Nat.reduceSub, Nat.reduceEqDiff, Nat.reduceLT, Nat.reduceLeDiff, Nat.reduceMul, ↓reduceIte, Int.reduceToNat, Int.reduceBEq, Int.reduceBNe, Int.reduceEq, Int.reduceLT, Int.reduceLE, h2, h3])
    · rw [decide_eq_false (by omega)]
      repeat (first | refine aops_op' rfl (by simp only [go_sem, reduceIte, reduceCtorEq, Nat.reduceAdd, Nat.reduceSub, Nat.reduceEqDiff, Nat.reduceLT, Nat.reduceLeDiff, Nat.reduceMul, ↓reduceIte, Int.reduceToNat, Int.reduceBEq, Int.reduceBNe, Int.reduceEq, Int.reduceLT, Int.reduceLE, h2, h3]; exact ⟨rfl, rfl⟩) ?_ | refine g_run ?_ | refine g_off ?_ | refine aops_nil (d_end ?_) | refine aops_nil ?_ | refine awp_seq ?_ | refine g_text ?_ | refine g_draw Tryd.mixed ?_ | refine awp_block ?_ | refine awp_skip ?_ | (refine awp_exit ?_; simp only [go_sem, Nat.reduceEqDiff]))
      (refine awp_ret ?_; show (resRd _ _ _).run _ = some _; simp only [go_sem, reduceIte, reduceCtorEq, Nat.reduceAdd, Nat.reduceSub, Nat.reduceEqDiff, Nat.reduceLT, Nat.reduceLeDiff, Nat.reduceMul, ↓reduceIte, Int.reduceToNat, Int.reduceBEq, Int.reduceBNe, Int.reduceEq, Int.reduceLT, Int.reduceLE, h2, h3])
  · rw [decide_eq_false (by omega)]
    repeat (first | refine aops_op' rfl (by simp only [go_sem, reduceIte, reduceCtorEq, Nat.reduceAdd, Nat.reduceSub, Nat.reduceEqDiff, Nat.reduceLT, Nat.reduceLeDiff, Nat.reduceMul, ↓reduceIte, Int.reduceToNat, Int.reduceBEq, Int.reduceBNe, Int.reduceEq, Int.reduceLT, Int.reduceLE, h2]; exact ⟨rfl, rfl⟩) ?_ | refine g_run ?_ | refine g_off ?_ | refine aops_nil (d_end ?_) | refine aops_nil ?_ | refine awp_seq ?_ | refine g_text ?_ | refine g_draw Tryd.mixed ?_ | refine awp_block ?_ | refine awp_skip ?_ | (refine awp_exit ?_; simp only [go_sem, Nat.reduceEqDiff]))
    (refine awp_ret ?_; show (resRd _ _ _).run _ = some _; simp only [go_sem, reduceIte, reduceCtorEq, Nat.reduceAdd, Nat.reduceSub, Nat.reduceEqDiff, Nat.reduceLT, Nat.reduceLeDiff, Nat.reduceMul, ↓reduceIte, Int.reduceToNat, Int.reduceBEq, Int.reduceBNe, Int.reduceEq, Int.reduceLT, Int.reduceLE, h2])
end Go.Proofs.YtbleibmjippmpaaDoor
