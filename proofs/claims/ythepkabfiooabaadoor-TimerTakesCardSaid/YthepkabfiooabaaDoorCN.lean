/- Contracts of scriniumref21.Letter, Digit, Name, of token.Name: by the walk without memory. -/
import Derived.Test.YthepkabfiooabaaDoorCO
import Derived.Test.YthepkabfiooabaaDoorText
import Derived.Test.YthepkabfiooabaaDoorBr
set_option linter.unusedSimpArgs false
namespace Go.Proofs.YthepkabfiooabaaDoor
open Go.RowKit
set_option maxRecDepth 100000
set_option maxHeartbeats 1000000
attribute [local go_sem_proc ↓] reduceIte
attribute [local go_sem_proc] reduceCtorEq Nat.reduceBEq Nat.reduceAdd Nat.reduceSub Nat.reduceEqDiff Nat.reduceLT Nat.reduceLeDiff Nat.reduceMul Int.reduceToNat Int.reduceBEq Int.reduceBNe Int.reduceEq Int.reduceLT Int.reduceLE
attribute [local go_sem] ev_clear ev_makeFunc funcRd evClear List.isEmpty_cons Array.isEmpty_iff ev_makeMap ev_lookup ev_mapUpdate ev_delete evMakeMap evLookup evMapUpdate evDelete pureOf keyCmp mfind oneCells Rd.map AV.bare AV.bare.bareL AV.ofVal resRd resOne resAll HoldF HoldR Takes thenA blockA ev_move ev_assign ev_pick ev_alloc ev_box ev_build ev_buildSlice ev_load ev_store ev_binOp ev_unOp ev_convert ev_iface ev_make ev_slice ev_fieldAddr ev_field ev_indexAddr ev_index ev_extract ev_len ev_append ev_min ev_max evMin evMax gt_tmp gt_int gt_bool gt_str gt_nilS gt_nilP gt_nilI pickRd allocRd buildRd sliceRd loadRd unRd ifaceRd exRd val optRd callRd seen AV.plain adopt fzArgs Rd.run AV.asCells newBox runL Comes' Rd.row Rd.bind Out.app apps Eff.app St.renew St.setRow St.show St.put St.init upd evStore evBinR evBin eqFs eqCell evConv evSeq evLen evIndexAddr evFieldAddr evField evIndex bound evSlice evSliceF evAppend evMake loadOf fillAV fillEs fzParts fz fzCell fzCells shows isConstOp splice wrs wes Value.oneCell' List.getD_cons_zero List.getD_cons_succ List.getD_nil List.length_cons List.length_nil List.map_cons List.map_nil List.nil_append List.cons_append List.all_cons List.all_nil List.getElem?_cons_zero List.getElem?_cons_succ List.set_cons_zero List.set_cons_succ List.take_succ_cons List.take_zero List.drop_succ_cons List.drop_zero List.take_nil List.drop_nil List.replicate_succ List.replicate_zero Bool.and_true Bool.true_and Bool.and_self and_self true_and and_true Nat.zero_add Nat.add_zero Option.some.injEq Nat.zero_lt_succ Bool.not_true Bool.not_false ne_eq not_true_eq_false not_false_eq_true Option.map_some Option.map_none List.toList_toArray head headF headR List.length_map Int.toNat_natCast Int.natCast_nonneg List.getElem?_map decide_true decide_false Bool.false_eq_true if_true if_false Bool.or_self Bool.or_true Bool.true_or Bool.false_or Bool.or_false Bool.and_false Bool.false_and List.flatten_cons List.flatten_nil List.append_nil nat0 or_self or_false false_or or_true true_or and_false false_and List.length_append List.isEmpty_nil bne_self_eq_false beq_self_eq_true fits_small strL_l bytesOf_map wants Int.cast_ofNat_Int gt_iff_lt ge_iff_le
attribute [local go_sem ←] List.map_drop List.map_take
theorem w_letter_con (env : Env) (c : UInt8) : Con Tryd.prog env 60 [.lit (.int .u8 (c.toNat : Int))] (B (letterI c.toNat)) := by
  refine con_of_body Tryd.func60 rfl Tryd.call60 (by rw [Tryd.ntmps60]; simp) ?_
  rw [Tryd.ntmps60, Tryd.results60]
  have hc := c.toNat_lt
  generalize c.toNat = n at *
  unfold letterI
  by_cases h1 : (n : Int) = 95
  · have e : decide ((n : Int) = 95 ∨ (97 ≤ (n : Int) ∧ (n : Int) ≤ 122) ∨ (65 ≤ (n : Int) ∧ (n : Int) ≤ 90)) = true := by simp; omega
    rw [e]
    have h1 : ((n : Int) == 95) = true := by simp; omega
    repeat (first | refine aops_op' rfl (by simp only [go_sem, h1]; exact ⟨rfl, rfl⟩) ?_ | refine g_run ?_ | refine g_off ?_ | refine aops_nil (d_end ?_) | refine aops_nil ?_ | refine awp_seq ?_ | refine g_text ?_ | refine g_draw Tryd.mixed ?_ | refine awp_block ?_ | refine awp_skip ?_ | (refine awp_exit ?_; simp only [thenA, blockA, ↓reduceIte, Nat.reduceEqDiff, reduceCtorEq]))
    (refine awp_ret ?_; show (resRd _ _ _).run _ = some _; simp only [go_sem, h1])
  · have h1' : ((n : Int) == 95) = false := by simp; omega
    by_cases h2 : (97 : Int) ≤ (n : Int)
    · by_cases h3 : (n : Int) ≤ 122
      · have e : decide ((n : Int) = 95 ∨ (97 ≤ (n : Int) ∧ (n : Int) ≤ 122) ∨ (65 ≤ (n : Int) ∧ (n : Int) ≤ 90)) = true := by simp; omega
        rw [e]
        repeat (first | refine aops_op' rfl (by simp only [go_sem, h1', h2, h3]; exact ⟨rfl, rfl⟩) ?_ | refine g_run ?_ | refine g_off ?_ | refine aops_nil (d_end ?_) | refine aops_nil ?_ | refine awp_seq ?_ | refine g_text ?_ | refine g_draw Tryd.mixed ?_ | refine awp_block ?_ | refine awp_skip ?_ | (refine awp_exit ?_; simp only [thenA, blockA, ↓reduceIte, Nat.reduceEqDiff, reduceCtorEq]))
        (refine awp_ret ?_; show (resRd _ _ _).run _ = some _; simp only [go_sem, h1', h2, h3])
      · have e : decide ((n : Int) = 95 ∨ (97 ≤ (n : Int) ∧ (n : Int) ≤ 122) ∨ (65 ≤ (n : Int) ∧ (n : Int) ≤ 90)) = false := by simp; omega
        have h4 : (65 : Int) ≤ (n : Int) := by omega
        have h5 : ¬ (n : Int) ≤ 90 := by omega
        rw [e]
        repeat (first | refine aops_op' rfl (by simp only [go_sem, h1', h2, h3, h4, h5]; exact ⟨rfl, rfl⟩) ?_ | refine g_run ?_ | refine g_off ?_ | refine aops_nil (d_end ?_) | refine aops_nil ?_ | refine awp_seq ?_ | refine g_text ?_ | refine g_draw Tryd.mixed ?_ | refine awp_block ?_ | refine awp_skip ?_ | (refine awp_exit ?_; simp only [thenA, blockA, ↓reduceIte, Nat.reduceEqDiff, reduceCtorEq]))
        (refine awp_ret ?_; show (resRd _ _ _).run _ = some _; simp only [go_sem, h1', h2, h3, h4, h5])
    · by_cases h4 : (65 : Int) ≤ (n : Int)
      · by_cases h5 : (n : Int) ≤ 90
        · have e : decide ((n : Int) = 95 ∨ (97 ≤ (n : Int) ∧ (n : Int) ≤ 122) ∨ (65 ≤ (n : Int) ∧ (n : Int) ≤ 90)) = true := by simp; omega
          rw [e]
          repeat (first | refine aops_op' rfl (by simp only [go_sem, h1', h2, h4, h5]; exact ⟨rfl, rfl⟩) ?_ | refine g_run ?_ | refine g_off ?_ | refine aops_nil (d_end ?_) | refine aops_nil ?_ | refine awp_seq ?_ | refine g_text ?_ | refine g_draw Tryd.mixed ?_ | refine awp_block ?_ | refine awp_skip ?_ | (refine awp_exit ?_; simp only [thenA, blockA, ↓reduceIte, Nat.reduceEqDiff, reduceCtorEq]))
          (refine awp_ret ?_; show (resRd _ _ _).run _ = some _; simp only [go_sem, h1', h2, h4, h5])
        · have e : decide ((n : Int) = 95 ∨ (97 ≤ (n : Int) ∧ (n : Int) ≤ 122) ∨ (65 ≤ (n : Int) ∧ (n : Int) ≤ 90)) = false := by simp; omega
          rw [e]
          repeat (first | refine aops_op' rfl (by simp only [go_sem, h1', h2, h4, h5]; exact ⟨rfl, rfl⟩) ?_ | refine g_run ?_ | refine g_off ?_ | refine aops_nil (d_end ?_) | refine aops_nil ?_ | refine awp_seq ?_ | refine g_text ?_ | refine g_draw Tryd.mixed ?_ | refine awp_block ?_ | refine awp_skip ?_ | (refine awp_exit ?_; simp only [thenA, blockA, ↓reduceIte, Nat.reduceEqDiff, reduceCtorEq]))
          (refine awp_ret ?_; show (resRd _ _ _).run _ = some _; simp only [go_sem, h1', h2, h4, h5])
      · have e : decide ((n : Int) = 95 ∨ (97 ≤ (n : Int) ∧ (n : Int) ≤ 122) ∨ (65 ≤ (n : Int) ∧ (n : Int) ≤ 90)) = false := by simp; omega
        rw [e]
        repeat (first | refine aops_op' rfl (by simp only [go_sem, h1', h2, h4]; exact ⟨rfl, rfl⟩) ?_ | refine g_run ?_ | refine g_off ?_ | refine aops_nil (d_end ?_) | refine aops_nil ?_ | refine awp_seq ?_ | refine g_text ?_ | refine g_draw Tryd.mixed ?_ | refine awp_block ?_ | refine awp_skip ?_ | (refine awp_exit ?_; simp only [thenA, blockA, ↓reduceIte, Nat.reduceEqDiff, reduceCtorEq]))
        (refine awp_ret ?_; show (resRd _ _ _).run _ = some _; simp only [go_sem, h1', h2, h4])
theorem w_digit_con (env : Env) (c : UInt8) : Con Tryd.prog env 61 [.lit (.int .u8 (c.toNat : Int))] (B (digitI c.toNat)) := by
  refine con_of_body Tryd.func61 rfl Tryd.call61 (by rw [Tryd.ntmps61]; simp) ?_
  rw [Tryd.ntmps61, Tryd.results61]
  generalize c.toNat = n at *
  unfold digitI
  by_cases h2 : (48 : Int) ≤ (n : Int)
  · by_cases h3 : (n : Int) ≤ 57
    · rw [decide_eq_true ⟨h2, h3⟩]
      repeat (first | refine aops_op' rfl (by simp only [go_sem, h2, h3]; exact ⟨rfl, rfl⟩) ?_ | refine g_run ?_ | refine g_off ?_ | refine aops_nil (d_end ?_) | refine aops_nil ?_ | refine awp_seq ?_ | refine g_text ?_ | refine g_draw Tryd.mixed ?_ | refine awp_block ?_ | refine awp_skip ?_ | (refine awp_exit ?_; simp only [thenA, blockA, ↓reduceIte, Nat.reduceEqDiff, reduceCtorEq]))
      (refine awp_ret ?_; show (resRd _ _ _).run _ = some _; simp only [go_sem, h2, h3])
    · rw [decide_eq_false (by omega)]
      repeat (first | refine aops_op' rfl (by simp only [go_sem, h2, h3]; exact ⟨rfl, rfl⟩) ?_ | refine g_run ?_ | refine g_off ?_ | refine aops_nil (d_end ?_) | refine aops_nil ?_ | refine awp_seq ?_ | refine g_text ?_ | refine g_draw Tryd.mixed ?_ | refine awp_block ?_ | refine awp_skip ?_ | (refine awp_exit ?_; simp only [thenA, blockA, ↓reduceIte, Nat.reduceEqDiff, reduceCtorEq]))
      (refine awp_ret ?_; show (resRd _ _ _).run _ = some _; simp only [go_sem, h2, h3])
  · rw [decide_eq_false (by omega)]
    repeat (first | refine aops_op' rfl (by simp only [go_sem, h2]; exact ⟨rfl, rfl⟩) ?_ | refine g_run ?_ | refine g_off ?_ | refine aops_nil (d_end ?_) | refine aops_nil ?_ | refine awp_seq ?_ | refine g_text ?_ | refine g_draw Tryd.mixed ?_ | refine awp_block ?_ | refine awp_skip ?_ | (refine awp_exit ?_; simp only [thenA, blockA, ↓reduceIte, Nat.reduceEqDiff, reduceCtorEq]))
    (refine awp_ret ?_; show (resRd _ _ _).run _ = some _; simp only [go_sem, h2])
theorem all_take_snoc {l : List UInt8} {p : UInt8 → Bool} {i : Nat} (h : (l.take i).all p = true) (hi : i < l.length) (hp : p l[i] = true) : (l.take (i + 1)).all p = true := by
  rw [List.take_succ_eq_append_getElem hi, List.all_append, h]
  simp [hp]
theorem all_no {l : List UInt8} {p : UInt8 → Bool} {i : Nat} (hi : i < l.length) (hp : p l[i] = false) : l.all p = false := by
  rw [Bool.eq_false_iff]
  intro h
  rw [List.all_eq_true] at h
  rw [h _ (List.getElem_mem hi)] at hp
  cases hp
theorem w_name_con (env : Env) (l : List UInt8) : Con Tryd.prog env 51 [Sg l] (B (nameB l)) := by
  refine con_of_body Tryd.func51 rfl Tryd.call51 (by rw [Tryd.ntmps51]; simp) ?_
  rw [Tryd.ntmps51, Tryd.results51]
  by_cases h0 : l = []
  · subst h0
    repeat (first | refine aops_op' rfl (by simp only [go_sem]; exact ⟨rfl, rfl⟩) ?_ | refine g_run ?_ | refine g_off ?_ | refine aops_nil (d_end ?_) | refine aops_nil ?_ | refine awp_seq ?_ | refine g_text ?_ | refine g_draw Tryd.mixed ?_ | refine awp_block ?_ | refine awp_skip ?_ | (refine awp_exit ?_; simp only [thenA, blockA, ↓reduceIte, Nat.reduceEqDiff, reduceCtorEq]))
    refine awp_yes' (by simp only [go_sem]; exact Is.rfl') ?_
    repeat (first | refine aops_op' rfl (by simp only [go_sem]; exact ⟨rfl, rfl⟩) ?_ | refine g_run ?_ | refine g_off ?_ | refine aops_nil (d_end ?_) | refine aops_nil ?_ | refine awp_seq ?_ | refine g_text ?_ | refine g_draw Tryd.mixed ?_ | refine awp_block ?_ | refine awp_skip ?_ | (refine awp_exit ?_; simp only [thenA, blockA, ↓reduceIte, Nat.reduceEqDiff, reduceCtorEq]))
    (refine awp_ret ?_; show (resRd _ _ _).run _ = some _; simp only [go_sem])
    rfl
  obtain ⟨c, hc⟩ : ∃ c, l[0]? = some c := ⟨l[0]'(List.length_pos_iff.2 h0), List.getElem?_eq_getElem _⟩
  have g0 : ((l.length : Int) == 0) = false := by
    have := List.length_pos_iff.2 h0
    simp; exact h0
  by_cases h1 : l.length ≤ 32
  · have g1 : ¬ 32 < (l.length : Int) := by omega
    by_cases h2 : letterI c.toNat = true
    · have hnm : nameB l = l.all fun c => innerI c.toNat := by
        cases l with
        | nil => exact (h0 rfl).elim
        | cons d r =>
          simp only [List.getElem?_cons_zero, Option.some.injEq] at hc
          subst hc
          unfold nameB
          simp only [h2, decide_eq_true h1, Bool.true_and]
      repeat (first | refine aops_op' rfl (by simp only [go_sem, g0, g1, hc, h2]; exact ⟨rfl, rfl⟩) ?_ | refine g_run ?_ | refine g_off ?_ | refine aops_nil (d_end ?_) | refine aops_nil ?_ | refine awp_seq ?_ | refine g_text ?_ | refine g_draw Tryd.mixed ?_ | refine awp_block ?_ | refine awp_skip ?_ | (refine awp_exit ?_; simp only [thenA, blockA, ↓reduceIte, Nat.reduceEqDiff, reduceCtorEq]))
      refine aops_call' rfl (w_letter_con env c) (by simp only [go_sem, g0, g1, hc, h2]; exact Is.rfl') (by simp only [go_sem, g0, g1, hc, h2]; exact ⟨rfl, rfl⟩) ?_
      repeat (first | refine aops_op' rfl (by simp only [go_sem, g0, g1, hc, h2]; exact ⟨rfl, rfl⟩) ?_ | refine g_run ?_ | refine g_off ?_ | refine aops_nil (d_end ?_) | refine aops_nil ?_ | refine awp_seq ?_ | refine g_text ?_ | refine g_draw Tryd.mixed ?_ | refine awp_block ?_ | refine awp_skip ?_ | (refine awp_exit ?_; simp only [thenA, blockA, ↓reduceIte, Nat.reduceEqDiff, reduceCtorEq]))
      refine awp_no' (by simp only [go_sem, g0, g1, hc, h2]; exact Is.rfl') ?_
      repeat (first | refine aops_op' rfl (by simp only [go_sem, g0, g1, hc, h2]; exact ⟨rfl, rfl⟩) ?_ | refine g_run ?_ | refine g_off ?_ | refine aops_nil (d_end ?_) | refine aops_nil ?_ | refine awp_seq ?_ | refine g_text ?_ | refine g_draw Tryd.mixed ?_ | refine awp_block ?_ | refine awp_skip ?_ | (refine awp_exit ?_; simp only [thenA, blockA, ↓reduceIte, Nat.reduceEqDiff, reduceCtorEq]))
      refine awp_loopH (D := Nat) (fun i _ => [(0, Sg l), (3, I i)]) (fun _ _ => []) (fun i _ _ => i ≤ l.length ∧ ((l.take i).all fun c => innerI c.toNat) = true) (fun i => l.length - i) 0 ?_ ?_ ?_ ?_
      · exact ⟨Nat.zero_le _, rfl⟩
      · (simp only [go_sem, g0, g1, hc, h2])
      · (simp only [go_sem, g0, g1, hc, h2])
      rintro i vs esc ⟨hi, ha⟩
      by_cases hlt : i < l.length
      · have g2 := nlt hlt
        have g3 := wrap_succ hlt (by omega)
        have g4 : l[i]? = some l[i] := List.getElem?_eq_getElem hlt
        have hnxt := fun hp => all_take_snoc (p := fun c => innerI c.toNat) ha hlt hp
        have hnot := fun hp => all_no (p := fun c => innerI c.toNat) hlt hp
        try simp only at hnxt
        try simp only at hnot
        generalize l[i] = x at *
        by_cases h5 : letterI x.toNat = true
        ·
          repeat (first | refine aops_op' rfl (by simp only [go_sem, g2, g3, g4, h5]; exact ⟨rfl, rfl⟩) ?_ | refine g_run ?_ | refine g_off ?_ | refine aops_nil (d_end ?_) | refine aops_nil ?_ | refine awp_seq ?_ | refine g_text ?_ | refine g_draw Tryd.mixed ?_ | refine awp_block ?_ | refine awp_skip ?_ | (refine awp_exit ?_; simp only [thenA, blockA, ↓reduceIte, Nat.reduceEqDiff, reduceCtorEq]))
          refine awp_yes' (by simp only [go_sem, g2, g3, g4, h5]; exact Is.rfl') ?_
          repeat (first | refine aops_op' rfl (by simp only [go_sem, g2, g3, g4, h5]; exact ⟨rfl, rfl⟩) ?_ | refine g_run ?_ | refine g_off ?_ | refine aops_nil (d_end ?_) | refine aops_nil ?_ | refine awp_seq ?_ | refine g_text ?_ | refine g_draw Tryd.mixed ?_ | refine awp_block ?_ | refine awp_skip ?_ | (refine awp_exit ?_; simp only [thenA, blockA, ↓reduceIte, Nat.reduceEqDiff, reduceCtorEq]))
          refine aops_call' rfl (w_letter_con env x) (by simp only [go_sem, g2, g3, g4, h5]; exact Is.rfl') (by simp only [go_sem, g2, g3, g4, h5]; exact ⟨rfl, rfl⟩) ?_
          repeat (first | refine aops_op' rfl (by simp only [go_sem, g2, g3, g4, h5]; exact ⟨rfl, rfl⟩) ?_ | refine g_run ?_ | refine g_off ?_ | refine aops_nil (d_end ?_) | refine aops_nil ?_ | refine awp_seq ?_ | refine g_text ?_ | refine g_draw Tryd.mixed ?_ | refine awp_block ?_ | refine awp_skip ?_ | (refine awp_exit ?_; simp only [thenA, blockA, ↓reduceIte, Nat.reduceEqDiff, reduceCtorEq]))
          refine awp_no' (by simp only [go_sem, g2, g3, g4, h5]; exact Is.rfl') ?_
          repeat (first | refine aops_op' rfl (by simp only [go_sem, g2, g3, g4, h5]; exact ⟨rfl, rfl⟩) ?_ | refine g_run ?_ | refine g_off ?_ | refine aops_nil (d_end ?_) | refine aops_nil ?_ | refine awp_seq ?_ | refine g_text ?_ | refine g_draw Tryd.mixed ?_ | refine awp_block ?_ | refine awp_skip ?_ | (refine awp_exit ?_; simp only [thenA, blockA, ↓reduceIte, Nat.reduceEqDiff, reduceCtorEq]))
          refine ⟨i + 1, ⟨hlt, hnxt (by simp [innerI, h5])⟩, ?_, ?_, ?_⟩
          · (simp only [go_sem, g2, g3, g4, h5])
          · (simp only [go_sem, g2, g3, g4, h5])
          · omega
        have h5 : letterI x.toNat = false := by simpa using h5
        by_cases h6 : digitI x.toNat = true
        ·
          repeat (first | refine aops_op' rfl (by simp only [go_sem, g2, g3, g4, h5, h6]; exact ⟨rfl, rfl⟩) ?_ | refine g_run ?_ | refine g_off ?_ | refine aops_nil (d_end ?_) | refine aops_nil ?_ | refine awp_seq ?_ | refine g_text ?_ | refine g_draw Tryd.mixed ?_ | refine awp_block ?_ | refine awp_skip ?_ | (refine awp_exit ?_; simp only [thenA, blockA, ↓reduceIte, Nat.reduceEqDiff, reduceCtorEq]))
          refine awp_yes' (by simp only [go_sem, g2, g3, g4, h5, h6]; exact Is.rfl') ?_
          repeat (first | refine aops_op' rfl (by simp only [go_sem, g2, g3, g4, h5, h6]; exact ⟨rfl, rfl⟩) ?_ | refine g_run ?_ | refine g_off ?_ | refine aops_nil (d_end ?_) | refine aops_nil ?_ | refine awp_seq ?_ | refine g_text ?_ | refine g_draw Tryd.mixed ?_ | refine awp_block ?_ | refine awp_skip ?_ | (refine awp_exit ?_; simp only [thenA, blockA, ↓reduceIte, Nat.reduceEqDiff, reduceCtorEq]))
          refine aops_call' rfl (w_letter_con env x) (by simp only [go_sem, g2, g3, g4, h5, h6]; exact Is.rfl') (by simp only [go_sem, g2, g3, g4, h5, h6]; exact ⟨rfl, rfl⟩) ?_
          repeat (first | refine aops_op' rfl (by simp only [go_sem, g2, g3, g4, h5, h6]; exact ⟨rfl, rfl⟩) ?_ | refine g_run ?_ | refine g_off ?_ | refine aops_nil (d_end ?_) | refine aops_nil ?_ | refine awp_seq ?_ | refine g_text ?_ | refine g_draw Tryd.mixed ?_ | refine awp_block ?_ | refine awp_skip ?_ | (refine awp_exit ?_; simp only [thenA, blockA, ↓reduceIte, Nat.reduceEqDiff, reduceCtorEq]))
          refine aops_call' rfl (w_digit_con env x) (by simp only [go_sem, g2, g3, g4, h5, h6]; exact Is.rfl') (by simp only [go_sem, g2, g3, g4, h5, h6]; exact ⟨rfl, rfl⟩) ?_
          repeat (first | refine aops_op' rfl (by simp only [go_sem, g2, g3, g4, h5, h6]; exact ⟨rfl, rfl⟩) ?_ | refine g_run ?_ | refine g_off ?_ | refine aops_nil (d_end ?_) | refine aops_nil ?_ | refine awp_seq ?_ | refine g_text ?_ | refine g_draw Tryd.mixed ?_ | refine awp_block ?_ | refine awp_skip ?_ | (refine awp_exit ?_; simp only [thenA, blockA, ↓reduceIte, Nat.reduceEqDiff, reduceCtorEq]))
          refine awp_no' (by simp only [go_sem, g2, g3, g4, h5, h6]; exact Is.rfl') ?_
          repeat (first | refine aops_op' rfl (by simp only [go_sem, g2, g3, g4, h5, h6]; exact ⟨rfl, rfl⟩) ?_ | refine g_run ?_ | refine g_off ?_ | refine aops_nil (d_end ?_) | refine aops_nil ?_ | refine awp_seq ?_ | refine g_text ?_ | refine g_draw Tryd.mixed ?_ | refine awp_block ?_ | refine awp_skip ?_ | (refine awp_exit ?_; simp only [thenA, blockA, ↓reduceIte, Nat.reduceEqDiff, reduceCtorEq]))
          refine ⟨i + 1, ⟨hlt, hnxt (by simp [innerI, h5, h6])⟩, ?_, ?_, ?_⟩
          · (simp only [go_sem, g2, g3, g4, h5, h6])
          · (simp only [go_sem, g2, g3, g4, h5, h6])
          · omega
        have h6 : digitI x.toNat = false := by simpa using h6
        by_cases h7 : (x.toNat : Int) = 46
        · have h8 : ((x.toNat : Int) != 46) = false := by rw [h7]; rfl
          repeat (first | refine aops_op' rfl (by simp only [go_sem, g2, g3, g4, h5, h6, h8]; exact ⟨rfl, rfl⟩) ?_ | refine g_run ?_ | refine g_off ?_ | refine aops_nil (d_end ?_) | refine aops_nil ?_ | refine awp_seq ?_ | refine g_text ?_ | refine g_draw Tryd.mixed ?_ | refine awp_block ?_ | refine awp_skip ?_ | (refine awp_exit ?_; simp only [thenA, blockA, ↓reduceIte, Nat.reduceEqDiff, reduceCtorEq]))
          refine awp_yes' (by simp only [go_sem, g2, g3, g4, h5, h6, h8]; exact Is.rfl') ?_
          repeat (first | refine aops_op' rfl (by simp only [go_sem, g2, g3, g4, h5, h6, h8]; exact ⟨rfl, rfl⟩) ?_ | refine g_run ?_ | refine g_off ?_ | refine aops_nil (d_end ?_) | refine aops_nil ?_ | refine awp_seq ?_ | refine g_text ?_ | refine g_draw Tryd.mixed ?_ | refine awp_block ?_ | refine awp_skip ?_ | (refine awp_exit ?_; simp only [thenA, blockA, ↓reduceIte, Nat.reduceEqDiff, reduceCtorEq]))
          refine aops_call' rfl (w_letter_con env x) (by simp only [go_sem, g2, g3, g4, h5, h6, h8]; exact Is.rfl') (by simp only [go_sem, g2, g3, g4, h5, h6, h8]; exact ⟨rfl, rfl⟩) ?_
          repeat (first | refine aops_op' rfl (by simp only [go_sem, g2, g3, g4, h5, h6, h8]; exact ⟨rfl, rfl⟩) ?_ | refine g_run ?_ | refine g_off ?_ | refine aops_nil (d_end ?_) | refine aops_nil ?_ | refine awp_seq ?_ | refine g_text ?_ | refine g_draw Tryd.mixed ?_ | refine awp_block ?_ | refine awp_skip ?_ | (refine awp_exit ?_; simp only [thenA, blockA, ↓reduceIte, Nat.reduceEqDiff, reduceCtorEq]))
          refine aops_call' rfl (w_digit_con env x) (by simp only [go_sem, g2, g3, g4, h5, h6, h8]; exact Is.rfl') (by simp only [go_sem, g2, g3, g4, h5, h6, h8]; exact ⟨rfl, rfl⟩) ?_
          repeat (first | refine aops_op' rfl (by simp only [go_sem, g2, g3, g4, h5, h6, h8]; exact ⟨rfl, rfl⟩) ?_ | refine g_run ?_ | refine g_off ?_ | refine aops_nil (d_end ?_) | refine aops_nil ?_ | refine awp_seq ?_ | refine g_text ?_ | refine g_draw Tryd.mixed ?_ | refine awp_block ?_ | refine awp_skip ?_ | (refine awp_exit ?_; simp only [thenA, blockA, ↓reduceIte, Nat.reduceEqDiff, reduceCtorEq]))
          refine awp_no' (by simp only [go_sem, g2, g3, g4, h5, h6, h8]; exact Is.rfl') ?_
          repeat (first | refine aops_op' rfl (by simp only [go_sem, g2, g3, g4, h5, h6, h8]; exact ⟨rfl, rfl⟩) ?_ | refine g_run ?_ | refine g_off ?_ | refine aops_nil (d_end ?_) | refine aops_nil ?_ | refine awp_seq ?_ | refine g_text ?_ | refine g_draw Tryd.mixed ?_ | refine awp_block ?_ | refine awp_skip ?_ | (refine awp_exit ?_; simp only [thenA, blockA, ↓reduceIte, Nat.reduceEqDiff, reduceCtorEq]))
          refine ⟨i + 1, ⟨hlt, hnxt (by simp only [innerI, h5, h6, decide_eq_true h7, Bool.or_true])⟩, ?_, ?_, ?_⟩
          · (simp only [go_sem, g2, g3, g4, h5, h6, h8])
          · (simp only [go_sem, g2, g3, g4, h5, h6, h8])
          · omega
        · have h8 : ((x.toNat : Int) != 46) = true := bne_iff_ne.2 h7
          repeat (first | refine aops_op' rfl (by simp only [go_sem, g2, g3, g4, h5, h6, h8]; exact ⟨rfl, rfl⟩) ?_ | refine g_run ?_ | refine g_off ?_ | refine aops_nil (d_end ?_) | refine aops_nil ?_ | refine awp_seq ?_ | refine g_text ?_ | refine g_draw Tryd.mixed ?_ | refine awp_block ?_ | refine awp_skip ?_ | (refine awp_exit ?_; simp only [thenA, blockA, ↓reduceIte, Nat.reduceEqDiff, reduceCtorEq]))
          refine awp_yes' (by simp only [go_sem, g2, g3, g4, h5, h6, h8]; exact Is.rfl') ?_
          repeat (first | refine aops_op' rfl (by simp only [go_sem, g2, g3, g4, h5, h6, h8]; exact ⟨rfl, rfl⟩) ?_ | refine g_run ?_ | refine g_off ?_ | refine aops_nil (d_end ?_) | refine aops_nil ?_ | refine awp_seq ?_ | refine g_text ?_ | refine g_draw Tryd.mixed ?_ | refine awp_block ?_ | refine awp_skip ?_ | (refine awp_exit ?_; simp only [thenA, blockA, ↓reduceIte, Nat.reduceEqDiff, reduceCtorEq]))
          refine aops_call' rfl (w_letter_con env x) (by simp only [go_sem, g2, g3, g4, h5, h6, h8]; exact Is.rfl') (by simp only [go_sem, g2, g3, g4, h5, h6, h8]; exact ⟨rfl, rfl⟩) ?_
          repeat (first | refine aops_op' rfl (by simp only [go_sem, g2, g3, g4, h5, h6, h8]; exact ⟨rfl, rfl⟩) ?_ | refine g_run ?_ | refine g_off ?_ | refine aops_nil (d_end ?_) | refine aops_nil ?_ | refine awp_seq ?_ | refine g_text ?_ | refine g_draw Tryd.mixed ?_ | refine awp_block ?_ | refine awp_skip ?_ | (refine awp_exit ?_; simp only [thenA, blockA, ↓reduceIte, Nat.reduceEqDiff, reduceCtorEq]))
          refine aops_call' rfl (w_digit_con env x) (by simp only [go_sem, g2, g3, g4, h5, h6, h8]; exact Is.rfl') (by simp only [go_sem, g2, g3, g4, h5, h6, h8]; exact ⟨rfl, rfl⟩) ?_
          repeat (first | refine aops_op' rfl (by simp only [go_sem, g2, g3, g4, h5, h6, h8]; exact ⟨rfl, rfl⟩) ?_ | refine g_run ?_ | refine g_off ?_ | refine aops_nil (d_end ?_) | refine aops_nil ?_ | refine awp_seq ?_ | refine g_text ?_ | refine g_draw Tryd.mixed ?_ | refine awp_block ?_ | refine awp_skip ?_ | (refine awp_exit ?_; simp only [thenA, blockA, ↓reduceIte, Nat.reduceEqDiff, reduceCtorEq]))
          refine awp_yes' (by simp only [go_sem, g2, g3, g4, h5, h6, h8]; exact Is.rfl') ?_
          repeat (first | refine aops_op' rfl (by simp only [go_sem, g2, g3, g4, h5, h6, h8]; exact ⟨rfl, rfl⟩) ?_ | refine g_run ?_ | refine g_off ?_ | refine aops_nil (d_end ?_) | refine aops_nil ?_ | refine awp_seq ?_ | refine g_text ?_ | refine g_draw Tryd.mixed ?_ | refine awp_block ?_ | refine awp_skip ?_ | (refine awp_exit ?_; simp only [thenA, blockA, ↓reduceIte, Nat.reduceEqDiff, reduceCtorEq]))
          (refine awp_ret ?_; show (resRd _ _ _).run _ = some _; simp only [go_sem, g2, g3, g4, h5, h6, h8])
          rw [hnm, hnot (by simp only [innerI, h5, h6, decide_eq_false h7, Bool.or_false])]
      · have g2 : ¬ (i : Int) < (l.length : Int) := by omega
        repeat (first | refine aops_op' rfl (by simp only [go_sem, g2]; exact ⟨rfl, rfl⟩) ?_ | refine g_run ?_ | refine g_off ?_ | refine aops_nil (d_end ?_) | refine aops_nil ?_ | refine awp_seq ?_ | refine g_text ?_ | refine g_draw Tryd.mixed ?_ | refine awp_block ?_ | refine awp_skip ?_ | (refine awp_exit ?_; simp only [thenA, blockA, ↓reduceIte, Nat.reduceEqDiff, reduceCtorEq]))
        refine awp_no' (by simp only [go_sem, g2]; exact Is.rfl') ?_
        repeat (first | refine aops_op' rfl (by simp only [go_sem, g2]; exact ⟨rfl, rfl⟩) ?_ | refine g_run ?_ | refine g_off ?_ | refine aops_nil (d_end ?_) | refine aops_nil ?_ | refine awp_seq ?_ | refine g_text ?_ | refine g_draw Tryd.mixed ?_ | refine awp_block ?_ | refine awp_skip ?_ | (refine awp_exit ?_; simp only [thenA, blockA, ↓reduceIte, Nat.reduceEqDiff, reduceCtorEq]))
        (refine awp_ret ?_; show (resRd _ _ _).run _ = some _; simp only [go_sem, g2])
        rw [hnm, ← ha, List.take_of_length_le (by omega)]
    · have h2 : letterI c.toNat = false := by simpa using h2
      have hnm : nameB l = false := by
        cases l with
        | nil => exact (h0 rfl).elim
        | cons d r =>
          simp only [List.getElem?_cons_zero, Option.some.injEq] at hc
          subst hc
          unfold nameB
          simp only [h2, Bool.and_false, Bool.false_and]
      rw [hnm]
      repeat (first | refine aops_op' rfl (by simp only [go_sem, g0, g1, hc, h2]; exact ⟨rfl, rfl⟩) ?_ | refine g_run ?_ | refine g_off ?_ | refine aops_nil (d_end ?_) | refine aops_nil ?_ | refine awp_seq ?_ | refine g_text ?_ | refine g_draw Tryd.mixed ?_ | refine awp_block ?_ | refine awp_skip ?_ | (refine awp_exit ?_; simp only [thenA, blockA, ↓reduceIte, Nat.reduceEqDiff, reduceCtorEq]))
      refine aops_call' rfl (w_letter_con env c) (by simp only [go_sem, g0, g1, hc, h2]; exact Is.rfl') (by simp only [go_sem, g0, g1, hc, h2]; exact ⟨rfl, rfl⟩) ?_
      repeat (first | refine aops_op' rfl (by simp only [go_sem, g0, g1, hc, h2]; exact ⟨rfl, rfl⟩) ?_ | refine g_run ?_ | refine g_off ?_ | refine aops_nil (d_end ?_) | refine aops_nil ?_ | refine awp_seq ?_ | refine g_text ?_ | refine g_draw Tryd.mixed ?_ | refine awp_block ?_ | refine awp_skip ?_ | (refine awp_exit ?_; simp only [thenA, blockA, ↓reduceIte, Nat.reduceEqDiff, reduceCtorEq]))
      refine awp_yes' (by simp only [go_sem, g0, g1, hc, h2]; exact Is.rfl') ?_
      repeat (first | refine aops_op' rfl (by simp only [go_sem, g0, g1, hc, h2]; exact ⟨rfl, rfl⟩) ?_ | refine g_run ?_ | refine g_off ?_ | refine aops_nil (d_end ?_) | refine aops_nil ?_ | refine awp_seq ?_ | refine g_text ?_ | refine g_draw Tryd.mixed ?_ | refine awp_block ?_ | refine awp_skip ?_ | (refine awp_exit ?_; simp only [thenA, blockA, ↓reduceIte, Nat.reduceEqDiff, reduceCtorEq]))
      (refine awp_ret ?_; show (resRd _ _ _).run _ = some _; simp only [go_sem, g0, g1, hc, h2])
  · have g1 : 32 < (l.length : Int) := by omega
    have hnm : nameB l = false := by
      unfold nameB
      rw [decide_eq_false h1]
      rfl
    rw [hnm]
    repeat (first | refine aops_op' rfl (by simp only [go_sem, g0, g1, hc]; exact ⟨rfl, rfl⟩) ?_ | refine g_run ?_ | refine g_off ?_ | refine aops_nil (d_end ?_) | refine aops_nil ?_ | refine awp_seq ?_ | refine g_text ?_ | refine g_draw Tryd.mixed ?_ | refine awp_block ?_ | refine awp_skip ?_ | (refine awp_exit ?_; simp only [thenA, blockA, ↓reduceIte, Nat.reduceEqDiff, reduceCtorEq]))
    refine awp_yes' (by simp only [go_sem, g0, g1, hc]; exact Is.rfl') ?_
    repeat (first | refine aops_op' rfl (by simp only [go_sem, g0, g1, hc]; exact ⟨rfl, rfl⟩) ?_ | refine g_run ?_ | refine g_off ?_ | refine aops_nil (d_end ?_) | refine aops_nil ?_ | refine awp_seq ?_ | refine g_text ?_ | refine g_draw Tryd.mixed ?_ | refine awp_block ?_ | refine awp_skip ?_ | (refine awp_exit ?_; simp only [thenA, blockA, ↓reduceIte, Nat.reduceEqDiff, reduceCtorEq]))
    (refine awp_ret ?_; show (resRd _ _ _).run _ = some _; simp only [go_sem, g0, g1, hc])
end Go.Proofs.YthepkabfiooabaaDoor
