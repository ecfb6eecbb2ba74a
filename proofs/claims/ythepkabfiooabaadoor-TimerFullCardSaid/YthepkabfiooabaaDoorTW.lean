/- The document's Until, DropAll of dues; the library's DeleteFunc of dues. -/
import Derived.Test.YthepkabfiooabaaDoorTO
set_option linter.unusedSimpArgs false
namespace Go.Proofs.YthepkabfiooabaaDoor
open Go.RowKit
set_option maxRecDepth 100000
set_option maxHeartbeats 4000000
attribute [local go_sem_proc ↓] reduceIte
attribute [local go_sem_proc] reduceCtorEq Nat.reduceBEq Nat.reduceAdd Nat.reduceSub Nat.reduceEqDiff Nat.reduceLT Nat.reduceLeDiff Nat.reduceMul Int.reduceToNat Int.reduceBEq Int.reduceBNe Int.reduceEq Int.reduceLT Int.reduceLE
attribute [local go_sem] ev_clear ev_makeFunc funcRd evClear List.isEmpty_cons Array.isEmpty_iff ev_makeMap ev_lookup ev_mapUpdate ev_delete evMakeMap evLookup evMapUpdate evDelete pureOf keyCmp mfind oneCells Rd.map AV.bare AV.bare.bareL AV.ofVal resRd resOne resAll HoldF HoldR Takes thenA blockA ev_move ev_assign ev_pick ev_alloc ev_box ev_build ev_buildSlice ev_load ev_store ev_binOp ev_unOp ev_convert ev_iface ev_make ev_slice ev_fieldAddr ev_field ev_indexAddr ev_index ev_extract ev_len ev_append ev_min ev_max evMin evMax gt_tmp gt_int gt_bool gt_str gt_nilS gt_nilP gt_nilI pickRd allocRd buildRd sliceRd loadRd unRd ifaceRd exRd val optRd callRd seen AV.plain adopt fzArgs Rd.run AV.asCells newBox runL Comes' Rd.row Rd.bind Out.app apps Eff.app St.renew St.setRow St.show St.put St.init upd evStore evBinR evBin eqFs eqCell evConv evSeq evLen evIndexAddr evFieldAddr evField evIndex bound evSlice evSliceF evAppend evMake loadOf fillAV fillEs fzParts fz fzCell fzCells shows isConstOp splice wrs wes Value.oneCell' List.getD_cons_zero List.getD_cons_succ List.getD_nil List.length_cons List.length_nil List.map_cons List.map_nil List.nil_append List.cons_append List.all_cons List.all_nil List.getElem?_cons_zero List.getElem?_cons_succ List.set_cons_zero List.set_cons_succ List.take_succ_cons List.take_zero List.drop_succ_cons List.drop_zero List.take_nil List.drop_nil List.replicate_succ List.replicate_zero Bool.and_true Bool.true_and Bool.and_self and_self true_and and_true Nat.zero_add Nat.add_zero Option.some.injEq Nat.zero_lt_succ Bool.not_true Bool.not_false ne_eq not_true_eq_false not_false_eq_true Option.map_some Option.map_none List.toList_toArray head headF headR List.length_map Int.toNat_natCast Int.natCast_nonneg List.getElem?_map decide_true decide_false Bool.false_eq_true if_true if_false Bool.or_self Bool.or_true Bool.true_or Bool.false_or Bool.or_false Bool.and_false Bool.false_and List.flatten_cons List.flatten_nil List.append_nil nat0 or_self or_false false_or or_true true_or and_false false_and List.length_append List.isEmpty_nil bne_self_eq_false beq_self_eq_true fits_small strL_l bytesOf_map wants Int.cast_ofNat_Int gt_iff_lt ge_iff_le
attribute [local go_sem ←] List.map_drop List.map_take
attribute [local go_sem] nilRd ev_nilCheck tmpsAre resI resIs cellRd HoldI toRL toKL gin gout nout vin grownR lay AV.ren AV.ren.renL Row.ren headR Option.bind_some Option.bind_none Option.isSome_some Option.isSome_none Option.getD_some Bool.true_eq_false PreOk PostOk EscOk wrs wes List.cons.injEq Prod.mk.injEq forall_const

def untilW (w : List Due) (now : Int) : List Due := w.filter fun d => decide (d.at_ ≤ now)
theorem runtil_con (env : Env) (w : List Due) (now : Int) (hw : w.length ≤ 4000) : Con Tryd.prog env 21 [dues w, I now] (.own 32 3 ((untilW w now).map dueC)) := by
  refine con_of_body Tryd.func21 rfl Tryd.call21 (by rw [Tryd.ntmps21]; simp) ?_
  rw [Tryd.ntmps21, Tryd.results21]
  repeat (first | refine aops_op' rfl (by simp only [go_sem]; exact ⟨rfl, rfl⟩) ?_ | refine g_run ?_ | refine g_off ?_ | refine aops_nil (d_end ?_) | refine aops_nil ?_ | refine awp_seq ?_ | refine g_text ?_ | refine g_draw Tryd.mixed ?_ | refine awp_block ?_ | refine awp_skip ?_ | (refine awp_exit ?_; simp only [thenA, blockA, ↓reduceIte, Nat.reduceEqDiff, reduceCtorEq]) | refine awp_yes' (by simp only [go_sem]; exact Is.rfl') ?_ | refine awp_no' (by simp only [go_sem]; exact Is.rfl') ?_)
  refine awp_loopH (D := Nat) (fun n vs => [(0, dues w), (1, I now), (5, .row 7 (vs 7)), (6, I n)]) (fun n vs => [(7, ⟨3, (untilW (w.take n) now).map dueC, 32, true⟩)]) (fun n _ esc => n ≤ w.length ∧ esc 7 = false) (fun n => w.length - n) 0 ?_ ?_ ?_ ?_
  · exact ⟨Nat.zero_le _, by simp only [go_sem]⟩
  · (simp only [go_sem])
  · (simp only [go_sem])
    rfl
  rintro n vs esc ⟨hn, hesc⟩
  by_cases hlt : n < w.length
  · obtain ⟨d, hd⟩ : ∃ x, w[n]? = some x := ⟨w[n], List.getElem?_eq_getElem hlt⟩
    have g1 := nlt hlt
    have g2 := wrap_succ hlt (by omega)
    have g3 : Fits ((untilW (w.take n) now).length + 1) 32 := fits_small (by have := filter_len (fun d => decide (d.at_ ≤ now)) w n; unfold untilW; omega) (by omega)
    have hq : untilW (w.take (n + 1)) now = untilW (w.take n) now ++ if (decide (d.at_ ≤ now)) = true then [d] else [] := by
      unfold untilW
      rw [take_next hd, List.filter_append]
      congr 1
      simp only [List.filter_cons, List.filter_nil]
    cases h1 : (decide (d.at_ ≤ now))
    · rw [h1] at hq
      simp only [Bool.false_eq_true, if_false, List.append_nil] at hq
      repeat (first | refine aops_op' rfl (by simp only [go_sem, dueC, hd, g1, g2, g3, h1, hesc]; exact ⟨rfl, rfl⟩) ?_ | refine g_run ?_ | refine g_off ?_ | refine aops_nil (d_end ?_) | refine aops_nil ?_ | refine awp_seq ?_ | refine g_text ?_ | refine g_draw Tryd.mixed ?_ | refine awp_block ?_ | refine awp_skip ?_ | (refine awp_exit ?_; simp only [thenA, blockA, ↓reduceIte, Nat.reduceEqDiff, reduceCtorEq]) | refine awp_yes' (by simp only [go_sem, dueC, hd, g1, g2, g3, h1, hesc]; exact Is.rfl') ?_ | refine awp_no' (by simp only [go_sem, dueC, hd, g1, g2, g3, h1, hesc]; exact Is.rfl') ?_)
      refine ⟨n + 1, ⟨hlt, by simp only [go_sem, hesc]⟩, ?_, ?_, ?_⟩
      · (simp only [go_sem, dueC, hd, g1, g2, g3, h1, hesc])
      · rw [hq]; (simp only [go_sem, dueC, hd, g1, g2, g3, h1, hesc])
      · omega
    · rw [h1] at hq
      simp only [if_true] at hq
      have hs : (untilW (w.take n) now).map dueC ++ [dueC d] = (untilW (w.take (n + 1)) now).map dueC := by rw [hq]; simp
      simp only [dueC] at hs
      repeat (first | refine aops_op' rfl (by simp only [go_sem, dueC, hd, g1, g2, g3, h1, hesc, hs]; exact ⟨rfl, rfl⟩) ?_ | refine g_run ?_ | refine g_off ?_ | refine aops_nil (d_end ?_) | refine aops_nil ?_ | refine awp_seq ?_ | refine g_text ?_ | refine g_draw Tryd.mixed ?_ | refine awp_block ?_ | refine awp_skip ?_ | (refine awp_exit ?_; simp only [thenA, blockA, ↓reduceIte, Nat.reduceEqDiff, reduceCtorEq]) | refine awp_yes' (by simp only [go_sem, dueC, hd, g1, g2, g3, h1, hesc, hs]; exact Is.rfl') ?_ | refine awp_no' (by simp only [go_sem, dueC, hd, g1, g2, g3, h1, hesc, hs]; exact Is.rfl') ?_)
      refine ⟨n + 1, ⟨hlt, by simp only [go_sem, hesc]⟩, ?_, ?_, ?_⟩
      · (simp only [go_sem, dueC, hd, g1, g2, g3, h1, hesc, hs])
      · (simp only [go_sem, dueC, hd, g1, g2, g3, h1, hesc, hs])
      · omega
  · have g1 : ¬ (n : Int) < (w.length : Int) := by omega
    have hs : untilW (w.take n) now = untilW w now := by rw [List.take_of_length_le (by omega)]
    repeat (first | refine aops_op' rfl (by simp only [go_sem, g1, hesc, hs]; exact ⟨rfl, rfl⟩) ?_ | refine g_run ?_ | refine g_off ?_ | refine aops_nil (d_end ?_) | refine aops_nil ?_ | refine awp_seq ?_ | refine g_text ?_ | refine g_draw Tryd.mixed ?_ | refine awp_block ?_ | refine awp_skip ?_ | (refine awp_exit ?_; simp only [thenA, blockA, ↓reduceIte, Nat.reduceEqDiff, reduceCtorEq]) | refine awp_yes' (by simp only [go_sem, g1, hesc, hs]; exact Is.rfl') ?_ | refine awp_no' (by simp only [go_sem, g1, hesc, hs]; exact Is.rfl') ?_)
    (refine awp_ret ?_; show (resRd _ _ _).run _ = some _; simp only [go_sem, g1, hesc, hs])
def dropAllW (w : List Due) (inst : Int) : List Due := w.filter fun d => d.inst != inst
theorem rdropall_con (env : Env) (w : List Due) (inst : Int) (hw : w.length ≤ 4000) : Con Tryd.prog env 42 [dues w, I inst] (.own 32 3 ((dropAllW w inst).map dueC)) := by
  refine con_of_body Tryd.func42 rfl Tryd.call42 (by rw [Tryd.ntmps42]; simp) ?_
  rw [Tryd.ntmps42, Tryd.results42]
  repeat (first | refine aops_op' rfl (by simp only [go_sem]; exact ⟨rfl, rfl⟩) ?_ | refine g_run ?_ | refine g_off ?_ | refine aops_nil (d_end ?_) | refine aops_nil ?_ | refine awp_seq ?_ | refine g_text ?_ | refine g_draw Tryd.mixed ?_ | refine awp_block ?_ | refine awp_skip ?_ | (refine awp_exit ?_; simp only [thenA, blockA, ↓reduceIte, Nat.reduceEqDiff, reduceCtorEq]) | refine awp_yes' (by simp only [go_sem]; exact Is.rfl') ?_ | refine awp_no' (by simp only [go_sem]; exact Is.rfl') ?_)
  refine awp_loopH (D := Nat) (fun n vs => [(0, dues w), (1, I inst), (5, .row 7 (vs 7)), (6, I n)]) (fun n vs => [(7, ⟨3, (dropAllW (w.take n) inst).map dueC, 32, true⟩)]) (fun n _ esc => n ≤ w.length ∧ esc 7 = false) (fun n => w.length - n) 0 ?_ ?_ ?_ ?_
  · exact ⟨Nat.zero_le _, by simp only [go_sem]⟩
  · (simp only [go_sem])
  · (simp only [go_sem])
    rfl
  rintro n vs esc ⟨hn, hesc⟩
  by_cases hlt : n < w.length
  · obtain ⟨d, hd⟩ : ∃ x, w[n]? = some x := ⟨w[n], List.getElem?_eq_getElem hlt⟩
    have g1 := nlt hlt
    have g2 := wrap_succ hlt (by omega)
    have g3 : Fits ((dropAllW (w.take n) inst).length + 1) 32 := fits_small (by have := filter_len (fun d => d.inst != inst) w n; unfold dropAllW; omega) (by omega)
    have hq : dropAllW (w.take (n + 1)) inst = dropAllW (w.take n) inst ++ if (d.inst != inst) = true then [d] else [] := by
      unfold dropAllW
      rw [take_next hd, List.filter_append]
      congr 1
      simp only [List.filter_cons, List.filter_nil]
    cases h1 : (d.inst != inst)
    · rw [h1] at hq
      simp only [Bool.false_eq_true, if_false, List.append_nil] at hq
      repeat (first | refine aops_op' rfl (by simp only [go_sem, dueC, hd, g1, g2, g3, h1, hesc]; exact ⟨rfl, rfl⟩) ?_ | refine g_run ?_ | refine g_off ?_ | refine aops_nil (d_end ?_) | refine aops_nil ?_ | refine awp_seq ?_ | refine g_text ?_ | refine g_draw Tryd.mixed ?_ | refine awp_block ?_ | refine awp_skip ?_ | (refine awp_exit ?_; simp only [thenA, blockA, ↓reduceIte, Nat.reduceEqDiff, reduceCtorEq]) | refine awp_yes' (by simp only [go_sem, dueC, hd, g1, g2, g3, h1, hesc]; exact Is.rfl') ?_ | refine awp_no' (by simp only [go_sem, dueC, hd, g1, g2, g3, h1, hesc]; exact Is.rfl') ?_)
      refine ⟨n + 1, ⟨hlt, by simp only [go_sem, hesc]⟩, ?_, ?_, ?_⟩
      · (simp only [go_sem, dueC, hd, g1, g2, g3, h1, hesc])
      · rw [hq]; (simp only [go_sem, dueC, hd, g1, g2, g3, h1, hesc])
      · omega
    · rw [h1] at hq
      simp only [if_true] at hq
      have hs : (dropAllW (w.take n) inst).map dueC ++ [dueC d] = (dropAllW (w.take (n + 1)) inst).map dueC := by rw [hq]; simp
      simp only [dueC] at hs
      repeat (first | refine aops_op' rfl (by simp only [go_sem, dueC, hd, g1, g2, g3, h1, hesc, hs]; exact ⟨rfl, rfl⟩) ?_ | refine g_run ?_ | refine g_off ?_ | refine aops_nil (d_end ?_) | refine aops_nil ?_ | refine awp_seq ?_ | refine g_text ?_ | refine g_draw Tryd.mixed ?_ | refine awp_block ?_ | refine awp_skip ?_ | (refine awp_exit ?_; simp only [thenA, blockA, ↓reduceIte, Nat.reduceEqDiff, reduceCtorEq]) | refine awp_yes' (by simp only [go_sem, dueC, hd, g1, g2, g3, h1, hesc, hs]; exact Is.rfl') ?_ | refine awp_no' (by simp only [go_sem, dueC, hd, g1, g2, g3, h1, hesc, hs]; exact Is.rfl') ?_)
      refine ⟨n + 1, ⟨hlt, by simp only [go_sem, hesc]⟩, ?_, ?_, ?_⟩
      · (simp only [go_sem, dueC, hd, g1, g2, g3, h1, hesc, hs])
      · (simp only [go_sem, dueC, hd, g1, g2, g3, h1, hesc, hs])
      · omega
  · have g1 : ¬ (n : Int) < (w.length : Int) := by omega
    have hs : dropAllW (w.take n) inst = dropAllW w inst := by rw [List.take_of_length_le (by omega)]
    repeat (first | refine aops_op' rfl (by simp only [go_sem, g1, hesc, hs]; exact ⟨rfl, rfl⟩) ?_ | refine g_run ?_ | refine g_off ?_ | refine aops_nil (d_end ?_) | refine aops_nil ?_ | refine awp_seq ?_ | refine g_text ?_ | refine g_draw Tryd.mixed ?_ | refine awp_block ?_ | refine awp_skip ?_ | (refine awp_exit ?_; simp only [thenA, blockA, ↓reduceIte, Nat.reduceEqDiff, reduceCtorEq]) | refine awp_yes' (by simp only [go_sem, g1, hesc, hs]; exact Is.rfl') ?_ | refine awp_no' (by simp only [go_sem, g1, hesc, hs]; exact Is.rfl') ?_)
    (refine awp_ret ?_; show (resRd _ _ _).run _ = some _; simp only [go_sem, g1, hesc, hs])
theorem late_con (env : Env) (now : Int) (d : Due) : Con Tryd.prog env 38 [.agg (dueC d), .ref 1 [[I now]] 0 0] (B (decide (now < d.at_))) := by
  refine con_of_body Tryd.func38 rfl Tryd.call38 (by rw [Tryd.ntmps38]; simp) ?_
  rw [Tryd.ntmps38, Tryd.results38]
  repeat (first | refine aops_op' rfl (by simp only [go_sem, dueC]; exact ⟨rfl, rfl⟩) ?_ | refine g_run ?_ | refine g_off ?_ | refine aops_nil (d_end ?_) | refine aops_nil ?_ | refine awp_seq ?_ | refine g_text ?_ | refine g_draw Tryd.mixed ?_ | refine awp_block ?_ | refine awp_skip ?_ | (refine awp_exit ?_; simp only [thenA, blockA, ↓reduceIte, Nat.reduceEqDiff, reduceCtorEq]) | refine awp_yes' (by simp only [go_sem, dueC]; exact Is.rfl') ?_ | refine awp_no' (by simp only [go_sem, dueC]; exact Is.rfl') ?_)
  (refine awp_ret ?_; show (resRd _ _ _).run _ = some _; simp only [go_sem, dueC])
/-- The place of the first element of which something holds. -/
def idxP (p : Due → Bool) : List Due → Option Nat
  | [] => none
  | d :: l => if p d = true then some 0 else (idxP p l).map (· + 1)
def idxI : Option Nat → Int
  | some i => i
  | none => -1
theorem idxP_some {p : Due → Bool} : ∀ {l : List Due} {i : Nat}, idxP p l = some i → i < l.length ∧ l.take i = (l.take i).filter (fun d => !p d) ∧ ∃ d, l[i]? = some d ∧ p d = true
  | [], i, h => by simp [idxP] at h
  | d :: l, i, h => by
    unfold idxP at h
    split at h
    · rename_i hp
      cases h
      exact ⟨by simp, by simp, d, rfl, hp⟩
    · rename_i hp
      cases hi : idxP p l with
      | none => rw [hi] at h; cases h
      | some j =>
        rw [hi] at h
        cases h
        obtain ⟨h1, h2, x, h3, h4⟩ := idxP_some hi
        refine ⟨by simp; omega, ?_, x, by simpa using h3, h4⟩
        have hp : p d = false := by simpa using hp
        simp only [List.take_succ_cons, List.filter_cons, hp, Bool.not_false, if_true]
        rw [← h2]
theorem idxP_none {p : Due → Bool} : ∀ {l : List Due}, idxP p l = none → l.filter (fun d => !p d) = l ∧ ∀ d ∈ l, p d = false
  | [], h => by simp
  | d :: l, h => by
    unfold idxP at h
    split at h
    · cases h
    · rename_i hp
      have hp : p d = false := by simpa using hp
      cases hi : idxP p l with
      | some j => rw [hi] at h; cases h
      | none =>
        obtain ⟨h1, h2⟩ := idxP_none hi
        refine ⟨by simp only [List.filter_cons, hp, Bool.not_false, if_true, h1], fun x hx => ?_⟩
        rcases List.mem_cons.1 hx with rfl | hx
        · exact hp
        · exact h2 x hx
theorem idxP_drop {p : Due → Bool} {l : List Due} {n : Nat} {d : Due} (hd : l[n]? = some d) : idxP p (l.drop n) = if p d = true then some 0 else (idxP p (l.drop (n + 1))).map (· + 1) := by
  rw [drop_cons hd]
  rfl
theorem indexF_con (env : Env) (l : List Due) (p : Due → Bool) (g : FuncId) (caps : List (List AV)) (hp : ∀ d, Con Tryd.prog env g [.agg (dueC d), .ref 1 caps 0 0] (B (p d))) (hl : l.length ≤ 4096) : Con Tryd.prog env 50 [dues l, .clo g [.ref 1 caps 0 0]] (I (idxI (idxP p l))) := by
  refine con_of_body Tryd.func50 rfl Tryd.call50 (by rw [Tryd.ntmps50]; simp) ?_
  rw [Tryd.ntmps50, Tryd.results50]
  repeat (first | refine aops_op' rfl (by simp only [go_sem]; exact ⟨rfl, rfl⟩) ?_ | refine g_run ?_ | refine g_off ?_ | refine aops_nil (d_end ?_) | refine aops_nil ?_ | refine awp_seq ?_ | refine g_text ?_ | refine g_draw Tryd.mixed ?_ | refine awp_block ?_ | refine awp_skip ?_ | (refine awp_exit ?_; simp only [thenA, blockA, ↓reduceIte, Nat.reduceEqDiff, reduceCtorEq]) | refine awp_yes' (by simp only [go_sem]; exact Is.rfl') ?_ | refine awp_no' (by simp only [go_sem]; exact Is.rfl') ?_)
  refine awp_loopH (D := Nat) (fun n vs => [(0, dues l), (1, .clo g [.ref 1 caps 0 0]), (7, I l.length), (8, I n)]) (fun n vs => []) (fun n _ esc => n ≤ l.length ∧ idxP p l = (idxP p (l.drop n)).map (· + n)) (fun n => l.length - n) 0 ?_ ?_ ?_ ?_
  · exact ⟨Nat.zero_le _, by simp⟩
  · (simp only [go_sem])
  · (simp only [go_sem])
  rintro n vs esc ⟨hn, hi⟩
  by_cases hlt : n < l.length
  · obtain ⟨d, hd⟩ : ∃ x, l[n]? = some x := ⟨l[n], List.getElem?_eq_getElem hlt⟩
    have g1 := nlt hlt
    have g2 := wrap_succ hlt (by omega)
    have f1 := hp d
    rw [idxP_drop hd] at hi
    cases h1 : p d
    · rw [h1] at hi f1
      simp only [Bool.false_eq_true, if_false] at hi
      repeat (first | refine aops_op' rfl (by simp only [go_sem, hd, g1, g2]; exact ⟨rfl, rfl⟩) ?_ | refine g_run ?_ | refine g_off ?_ | refine aops_nil (d_end ?_) | refine aops_nil ?_ | refine awp_seq ?_ | refine g_text ?_ | refine g_draw Tryd.mixed ?_ | refine awp_block ?_ | refine awp_skip ?_ | (refine awp_exit ?_; simp only [thenA, blockA, ↓reduceIte, Nat.reduceEqDiff, reduceCtorEq]) | refine awp_yes' (by simp only [go_sem, hd, g1, g2]; exact Is.rfl') ?_ | refine awp_no' (by simp only [go_sem, hd, g1, g2]; exact Is.rfl') ?_)
      refine aops_call' (callOf_clo rfl (by simp only [go_sem, hd, g1, g2]; exact Is.rfl')) (f1) (by simp only [go_sem, hd, g1, g2]; exact Is.rfl') (by simp only [go_sem, hd, g1, g2]; exact ⟨rfl, rfl⟩) ?_
      repeat (first | refine aops_op' rfl (by simp only [go_sem, hd, g1, g2]; exact ⟨rfl, rfl⟩) ?_ | refine g_run ?_ | refine g_off ?_ | refine aops_nil (d_end ?_) | refine aops_nil ?_ | refine awp_seq ?_ | refine g_text ?_ | refine g_draw Tryd.mixed ?_ | refine awp_block ?_ | refine awp_skip ?_ | (refine awp_exit ?_; simp only [thenA, blockA, ↓reduceIte, Nat.reduceEqDiff, reduceCtorEq]) | refine awp_yes' (by simp only [go_sem, hd, g1, g2]; exact Is.rfl') ?_ | refine awp_no' (by simp only [go_sem, hd, g1, g2]; exact Is.rfl') ?_)
      refine ⟨n + 1, ⟨hlt, ?_⟩, ?_, ?_, ?_⟩
      · rw [hi]
        cases idxP p (l.drop (n + 1))
        · rfl
        · simp; omega
      · (simp only [go_sem, hd, g1, g2])
      · (simp only [go_sem, hd, g1, g2])
      · omega
    · rw [h1] at hi f1
      simp only [if_true, Option.map_some, Nat.zero_add] at hi
      rw [hi]
      repeat (first | refine aops_op' rfl (by simp only [go_sem, hd, g1, g2, idxI]; exact ⟨rfl, rfl⟩) ?_ | refine g_run ?_ | refine g_off ?_ | refine aops_nil (d_end ?_) | refine aops_nil ?_ | refine awp_seq ?_ | refine g_text ?_ | refine g_draw Tryd.mixed ?_ | refine awp_block ?_ | refine awp_skip ?_ | (refine awp_exit ?_; simp only [thenA, blockA, ↓reduceIte, Nat.reduceEqDiff, reduceCtorEq]) | refine awp_yes' (by simp only [go_sem, hd, g1, g2, idxI]; exact Is.rfl') ?_ | refine awp_no' (by simp only [go_sem, hd, g1, g2, idxI]; exact Is.rfl') ?_)
      refine aops_call' (callOf_clo rfl (by simp only [go_sem, hd, g1, g2, idxI]; exact Is.rfl')) (f1) (by simp only [go_sem, hd, g1, g2, idxI]; exact Is.rfl') (by simp only [go_sem, hd, g1, g2, idxI]; exact ⟨rfl, rfl⟩) ?_
      repeat (first | refine aops_op' rfl (by simp only [go_sem, hd, g1, g2, idxI]; exact ⟨rfl, rfl⟩) ?_ | refine g_run ?_ | refine g_off ?_ | refine aops_nil (d_end ?_) | refine aops_nil ?_ | refine awp_seq ?_ | refine g_text ?_ | refine g_draw Tryd.mixed ?_ | refine awp_block ?_ | refine awp_skip ?_ | (refine awp_exit ?_; simp only [thenA, blockA, ↓reduceIte, Nat.reduceEqDiff, reduceCtorEq]) | refine awp_yes' (by simp only [go_sem, hd, g1, g2, idxI]; exact Is.rfl') ?_ | refine awp_no' (by simp only [go_sem, hd, g1, g2, idxI]; exact Is.rfl') ?_)
      (refine awp_ret ?_; show (resRd _ _ _).run _ = some _; simp only [go_sem, hd, g1, g2, idxI])
  · have g1 : ¬ (n : Int) < (l.length : Int) := by omega
    rw [List.drop_of_length_le (by omega)] at hi
    rw [hi]
    repeat (first | refine aops_op' rfl (by simp only [go_sem, g1, idxI, idxP]; exact ⟨rfl, rfl⟩) ?_ | refine g_run ?_ | refine g_off ?_ | refine aops_nil (d_end ?_) | refine aops_nil ?_ | refine awp_seq ?_ | refine g_text ?_ | refine g_draw Tryd.mixed ?_ | refine awp_block ?_ | refine awp_skip ?_ | (refine awp_exit ?_; simp only [thenA, blockA, ↓reduceIte, Nat.reduceEqDiff, reduceCtorEq]) | refine awp_yes' (by simp only [go_sem, g1, idxI, idxP]; exact Is.rfl') ?_ | refine awp_no' (by simp only [go_sem, g1, idxI, idxP]; exact Is.rfl') ?_)
    (refine awp_ret ?_; show (resRd _ _ _).run _ = some _; simp only [go_sem, g1, idxI, idxP])
theorem deleteF_con (env : Env) (l : List Due) (p : Due → Bool) (g : FuncId) (c0 : Value) (te : TypeId) (hp : ∀ d, Con Tryd.prog env g [.agg (dueC d), .ref 1 [[.lit c0]] 0 0] (B (p d))) (hl : l.length ≤ 4096) :
    ConI Tryd.prog env 37 [1000, 1001] (fun k => k == 1000) (fun vs => [.row 1000 (vs 1000), .clo g [.loc 1001 (vs 1001) 0 0]]) (fun _ => [(1000, ⟨3, l.map dueC, 32, true⟩), (1001, ⟨1, [[.lit c0]], te, false⟩)]) (fun _ => [(1000, ⟨3, (l.filter fun d => !p d).map dueC, 32, true⟩), (1001, ⟨1, [[.lit c0]], te, false⟩)]) (fun vs => .row 1000 (vs 1000)) := by
  have f0 := (indexF_con env l p g [[.lit c0]] hp hl).lend rfl
  cases hi : idxP p l with
  | none =>
    rw [hi] at f0
    obtain ⟨h1, _⟩ := idxP_none hi
    rw [h1]
    refine ⟨Tryd.call37, _, _, Tryd.func37, rfl, (by intro _; rw [Tryd.ntmps37]; simp), ?_⟩
    intro vs esc hesc
    rw [Tryd.ntmps37, Tryd.results37]
    have e0 := hesc 1000 (by simp)
    have e1 := hesc 1001 (by simp)
    repeat (first | refine aops_op' rfl (by simp only [go_sem, e0, e1, idxI]; exact ⟨rfl, rfl⟩) ?_ | refine g_run ?_ | refine g_off ?_ | refine aops_nil (d_end ?_) | refine aops_nil ?_ | refine awp_seq ?_ | refine g_text ?_ | refine g_draw Tryd.mixed ?_ | refine awp_block ?_ | refine awp_skip ?_ | (refine awp_exit ?_; simp only [thenA, blockA, ↓reduceIte, Nat.reduceEqDiff, reduceCtorEq]) | refine awp_yes' (by simp only [go_sem, e0, e1, idxI]; exact Is.rfl') ?_ | refine awp_no' (by simp only [go_sem, e0, e1, idxI]; exact Is.rfl') ?_)
    refine aops_lend' rfl (f0) (by simp only [go_sem, e0, e1, idxI]; exact Is.rfl') (by simp only [go_sem, e0, e1, idxI]; exact ⟨rfl, rfl⟩) ?_
    repeat (first | refine aops_op' rfl (by simp only [go_sem, e0, e1, idxI]; exact ⟨rfl, rfl⟩) ?_ | refine g_run ?_ | refine g_off ?_ | refine aops_nil (d_end ?_) | refine aops_nil ?_ | refine awp_seq ?_ | refine g_text ?_ | refine g_draw Tryd.mixed ?_ | refine awp_block ?_ | refine awp_skip ?_ | (refine awp_exit ?_; simp only [thenA, blockA, ↓reduceIte, Nat.reduceEqDiff, reduceCtorEq]) | refine awp_yes' (by simp only [go_sem, e0, e1, idxI]; exact Is.rfl') ?_ | refine awp_no' (by simp only [go_sem, e0, e1, idxI]; exact Is.rfl') ?_)
    (refine awp_ret ?_; (try simp only [thenA, blockA, ↓reduceIte, Nat.reduceEqDiff, reduceCtorEq]); refine retI_of ?_ ?_ <;> simp only [go_sem, e0, e1, idxI, implies_true, and_self, imp_self, false_implies, AV.tuple.injEq, exists_eq_left', ne_eq])
  | some i0 =>
    rw [hi] at f0
    obtain ⟨h1, h2, d0, h3, h4⟩ := idxP_some hi
    have g0 : ((i0 : Int) == -1) = false := by simp
    have g1 := wrap_succ h1 (by omega)
    refine ⟨Tryd.call37, _, _, Tryd.func37, rfl, (by intro _; rw [Tryd.ntmps37]; simp), ?_⟩
    intro vs esc hesc
    rw [Tryd.ntmps37, Tryd.results37]
    have e0 := hesc 1000 (by simp)
    have e1 := hesc 1001 (by simp)
    repeat (first | refine aops_op' rfl (by simp only [go_sem, e0, e1, idxI, g0, g1]; exact ⟨rfl, rfl⟩) ?_ | refine g_run ?_ | refine g_off ?_ | refine aops_nil (d_end ?_) | refine aops_nil ?_ | refine awp_seq ?_ | refine g_text ?_ | refine g_draw Tryd.mixed ?_ | refine awp_block ?_ | refine awp_skip ?_ | (refine awp_exit ?_; simp only [thenA, blockA, ↓reduceIte, Nat.reduceEqDiff, reduceCtorEq]) | refine awp_yes' (by simp only [go_sem, e0, e1, idxI, g0, g1]; exact Is.rfl') ?_ | refine awp_no' (by simp only [go_sem, e0, e1, idxI, g0, g1]; exact Is.rfl') ?_)
    refine aops_lend' rfl (f0) (by simp only [go_sem, e0, e1, idxI, g0, g1]; exact Is.rfl') (by simp only [go_sem, e0, e1, idxI, g0, g1]; exact ⟨rfl, rfl⟩) ?_
    repeat (first | refine aops_op' rfl (by simp only [go_sem, e0, e1, idxI, g0, g1]; exact ⟨rfl, rfl⟩) ?_ | refine g_run ?_ | refine g_off ?_ | refine aops_nil (d_end ?_) | refine aops_nil ?_ | refine awp_seq ?_ | refine g_text ?_ | refine g_draw Tryd.mixed ?_ | refine awp_block ?_ | refine awp_skip ?_ | (refine awp_exit ?_; simp only [thenA, blockA, ↓reduceIte, Nat.reduceEqDiff, reduceCtorEq]) | refine awp_yes' (by simp only [go_sem, e0, e1, idxI, g0, g1]; exact Is.rfl') ?_ | refine awp_no' (by simp only [go_sem, e0, e1, idxI, g0, g1]; exact Is.rfl') ?_)
    refine awp_loopH (D := Nat × List Due) (fun x vs' => [(0, .row 1000 (vs' 1000)), (1, .clo g [.loc 1001 (vs' 1001) 0 0]), (5, I (((l.take x.1).filter fun d => !p d).length : Int)), (6, I (x.1 : Int))]) (fun x vs' => [(1000, ⟨3, x.2.map dueC, 32, true⟩), (1001, ⟨1, [[.lit c0]], te, false⟩)]) (fun x vs' esc' => (x.1 ≤ l.length ∧ x.2.length = l.length ∧ ((l.take x.1).filter fun d => !p d).length < x.1 ∧ x.2.take ((l.take x.1).filter fun d => !p d).length = (l.take x.1).filter (fun d => !p d) ∧ x.2.drop x.1 = l.drop x.1) ∧ vs' 1001 = vs 1001 ∧ esc' 1000 = false ∧ esc' 1001 = false) (fun x => l.length - x.1) (i0 + 1, l) ?_ ?_ ?_ ?_
    · have hq : (l.take (i0 + 1)).filter (fun d => !p d) = l.take i0 := by
        rw [take_next h3, List.filter_append, ← h2]
        simp [h4]
      refine ⟨⟨h1, rfl, ?_, ?_, rfl⟩, by simp only [go_sem], by simp only [go_sem, e0], by simp only [go_sem, e1]⟩
      · rw [hq, List.length_take]; omega
      · simp only
        rw [hq, List.length_take, Nat.min_eq_left (by omega)]
    · have hq : ((l.take (i0 + 1)).filter fun d => !p d).length = i0 := by
        rw [take_next h3, List.filter_append, ← h2]
        simp [h4]
        omega
      simp only [hq]
      (simp only [go_sem, e0, e1, idxI, g0, g1])
    · (simp only [go_sem, e0, e1, idxI, g0, g1])
    clear e0 e1 g0 g1 h1 h2 h3 h4 hi
    rintro ⟨j, L⟩ ws es ⟨⟨hj, hL, hc, ht, hd⟩, v1, e0, e1⟩
    simp only at hj hL hc ht hd
    generalize hcn : ((l.take j).filter fun d => !p d).length = c at *
    by_cases hlt : j < l.length
    · obtain ⟨d, hx⟩ : ∃ x, l[j]? = some x := ⟨l[j], List.getElem?_eq_getElem hlt⟩
      have hxL : L[j]? = some d := by
        have := congrArg (fun q : List Due => q[0]?) hd
        simpa [hx] using this
      have f1 := hp d
      have g1 : (j : Int) < (L.length : Int) := by omega
      have g2 := wrap_succ hlt (by omega)
      have g3 := take_next hx
      cases h1 : p d
      · rw [h1] at f1
        obtain ⟨y, hy⟩ : ∃ x, L[c]? = some x := ⟨L[c]'(by omega), List.getElem?_eq_getElem (by omega)⟩
        have g4 : (c : Int) < (L.length : Int) := by omega
        have g5 : IntKind.i64.wrap ((c : Int) + 1) = ((c + 1 : Nat) : Int) := wrap_succ (show c < l.length by omega) (by omega)
        have hq : ((l.take (j + 1)).filter fun d => !p d) = (l.take j).filter (fun d => !p d) ++ [d] := by rw [g3, List.filter_append]; simp [h1]
        have hs : (L.map dueC).set c (dueC d) = (L.set c d).map dueC := by rw [List.map_set]
        simp only [dueC] at hs
        repeat (first | refine aops_op' rfl (by simp only [go_sem, dueC, hxL, hy, e0, e1, g1, g2, g4, g5, hs]; exact ⟨rfl, rfl⟩) ?_ | refine g_run ?_ | refine g_off ?_ | refine aops_nil (d_end ?_) | refine aops_nil ?_ | refine awp_seq ?_ | refine g_text ?_ | refine g_draw Tryd.mixed ?_ | refine awp_block ?_ | refine awp_skip ?_ | (refine awp_exit ?_; simp only [thenA, blockA, ↓reduceIte, Nat.reduceEqDiff, reduceCtorEq]) | refine awp_yes' (by simp only [go_sem, dueC, hxL, hy, e0, e1, g1, g2, g4, g5, hs]; exact Is.rfl') ?_ | refine awp_no' (by simp only [go_sem, dueC, hxL, hy, e0, e1, g1, g2, g4, g5, hs]; exact Is.rfl') ?_)
        refine aops_lend' (callOf_clo rfl (by simp only [go_sem, dueC, hxL, hy, e0, e1, g1, g2, g4, g5, hs]; exact Is.rfl')) (f1.lend rfl) (by simp only [go_sem, dueC, hxL, hy, e0, e1, g1, g2, g4, g5, hs]; exact Is.rfl') (by simp only [go_sem, dueC, hxL, hy, e0, e1, g1, g2, g4, g5, hs]; exact ⟨rfl, rfl⟩) ?_
        repeat (first | refine aops_op' rfl (by simp only [go_sem, dueC, hxL, hy, e0, e1, g1, g2, g4, g5, hs]; exact ⟨rfl, rfl⟩) ?_ | refine g_run ?_ | refine g_off ?_ | refine aops_nil (d_end ?_) | refine aops_nil ?_ | refine awp_seq ?_ | refine g_text ?_ | refine g_draw Tryd.mixed ?_ | refine awp_block ?_ | refine awp_skip ?_ | (refine awp_exit ?_; simp only [thenA, blockA, ↓reduceIte, Nat.reduceEqDiff, reduceCtorEq]) | refine awp_yes' (by simp only [go_sem, dueC, hxL, hy, e0, e1, g1, g2, g4, g5, hs]; exact Is.rfl') ?_ | refine awp_no' (by simp only [go_sem, dueC, hxL, hy, e0, e1, g1, g2, g4, g5, hs]; exact Is.rfl') ?_)
        refine ⟨(j + 1, L.set c d), ⟨⟨hlt, by simpa using hL, ?_, ?_, ?_⟩, ?_, ?_, ?_⟩, ?_, ?_, ?_⟩
        · simp only [hq, List.length_append, List.length_singleton, hcn]; omega
        · simp only [hq, List.length_append, List.length_singleton, hcn]
          rw [← ht]
          apply List.ext_getElem?
          intro k
          rw [List.getElem?_take, List.getElem?_set]
          by_cases hk : k < c
          · rw [if_pos (by omega), if_neg (by omega), List.getElem?_append_left (by simp; omega), List.getElem?_take, if_pos hk]
          · by_cases hk2 : k = c
            · subst hk2
              rw [if_pos (by omega), if_pos rfl, if_pos (by omega), List.getElem?_append_right (by rw [List.length_take]; omega), List.length_take, Nat.min_eq_left (by omega)]
              simp
            · rw [if_neg (by omega), List.getElem?_eq_none (by rw [List.length_append, List.length_take, List.length_singleton]; omega)]
        · simp only
          rw [List.drop_set_of_lt (by omega)]
          have := congrArg (List.drop 1) hd
          simpa [List.drop_drop] using this
        · simp only [go_sem, v1]
        · simp only [go_sem, e0]
        · simp only [go_sem, e1]
        · have hq2 : ((l.take (j + 1)).filter fun d => !p d).length = c + 1 := by rw [hq, List.length_append, hcn]; rfl
          simp only [hq2]
          (simp only [go_sem, dueC, hxL, hy, e0, e1, g1, g2, g4, g5, hs])
        · (simp only [go_sem, dueC, hxL, hy, e0, e1, g1, g2, g4, g5, hs])
        · simp only; omega
      · rw [h1] at f1
        have hq : ((l.take (j + 1)).filter fun d => !p d) = (l.take j).filter (fun d => !p d) := by rw [g3, List.filter_append]; simp [h1]
        repeat (first | refine aops_op' rfl (by simp only [go_sem, dueC, hxL, e0, e1, g1, g2]; exact ⟨rfl, rfl⟩) ?_ | refine g_run ?_ | refine g_off ?_ | refine aops_nil (d_end ?_) | refine aops_nil ?_ | refine awp_seq ?_ | refine g_text ?_ | refine g_draw Tryd.mixed ?_ | refine awp_block ?_ | refine awp_skip ?_ | (refine awp_exit ?_; simp only [thenA, blockA, ↓reduceIte, Nat.reduceEqDiff, reduceCtorEq]) | refine awp_yes' (by simp only [go_sem, dueC, hxL, e0, e1, g1, g2]; exact Is.rfl') ?_ | refine awp_no' (by simp only [go_sem, dueC, hxL, e0, e1, g1, g2]; exact Is.rfl') ?_)
        refine aops_lend' (callOf_clo rfl (by simp only [go_sem, dueC, hxL, e0, e1, g1, g2]; exact Is.rfl')) (f1.lend rfl) (by simp only [go_sem, dueC, hxL, e0, e1, g1, g2]; exact Is.rfl') (by simp only [go_sem, dueC, hxL, e0, e1, g1, g2]; exact ⟨rfl, rfl⟩) ?_
        repeat (first | refine aops_op' rfl (by simp only [go_sem, dueC, hxL, e0, e1, g1, g2]; exact ⟨rfl, rfl⟩) ?_ | refine g_run ?_ | refine g_off ?_ | refine aops_nil (d_end ?_) | refine aops_nil ?_ | refine awp_seq ?_ | refine g_text ?_ | refine g_draw Tryd.mixed ?_ | refine awp_block ?_ | refine awp_skip ?_ | (refine awp_exit ?_; simp only [thenA, blockA, ↓reduceIte, Nat.reduceEqDiff, reduceCtorEq]) | refine awp_yes' (by simp only [go_sem, dueC, hxL, e0, e1, g1, g2]; exact Is.rfl') ?_ | refine awp_no' (by simp only [go_sem, dueC, hxL, e0, e1, g1, g2]; exact Is.rfl') ?_)
        refine ⟨(j + 1, L), ⟨⟨hlt, hL, ?_, ?_, ?_⟩, ?_, ?_, ?_⟩, ?_, ?_, ?_⟩
        · simp only [hq, hcn]; omega
        · simp only [hq, hcn]; exact ht
        · simp only
          have := congrArg (List.drop 1) hd
          simpa [List.drop_drop] using this
        · simp only [go_sem, v1]
        · simp only [go_sem, e0]
        · simp only [go_sem, e1]
        · simp only [hq, hcn]
          (simp only [go_sem, dueC, hxL, e0, e1, g1, g2])
        · (simp only [go_sem, dueC, hxL, e0, e1, g1, g2])
        · simp only; omega
    · have g1 : ¬ (j : Int) < (L.length : Int) := by omega
      have hjl : l.take j = l := List.take_of_length_le (by omega)
      rw [hjl] at ht hcn
      have g4 : (c : Int) ≤ (L.length : Int) := by omega
      have g5 : c ≤ L.length := by omega
      have g6 : ∀ X : List (List AV), ((L.take c).map dueC ++ X).take c = (l.filter fun d => !p d).map dueC := fun X => by
        rw [List.take_left' (by rw [List.length_map, List.length_take]; omega), ht]
      have g7 : c + (L.length - c) = L.length := by omega
      have g8 : min c L.length = c := by omega
      repeat (first | refine aops_op' rfl (by simp only [go_sem, v1, e0, e1, List.length_take, List.length_replicate, g1, g4, g5, g6, g7, g8]; exact ⟨rfl, rfl⟩) ?_ | refine g_run ?_ | refine g_off ?_ | refine aops_nil (d_end ?_) | refine aops_nil ?_ | refine awp_seq ?_ | refine g_text ?_ | refine g_draw Tryd.mixed ?_ | refine awp_block ?_ | refine awp_skip ?_ | (refine awp_exit ?_; simp only [thenA, blockA, ↓reduceIte, Nat.reduceEqDiff, reduceCtorEq]) | refine awp_yes' (by simp only [go_sem, v1, e0, e1, List.length_take, List.length_replicate, g1, g4, g5, g6, g7, g8]; exact Is.rfl') ?_ | refine awp_no' (by simp only [go_sem, v1, e0, e1, List.length_take, List.length_replicate, g1, g4, g5, g6, g7, g8]; exact Is.rfl') ?_)
      (refine awp_ret ?_; (try simp only [thenA, blockA, ↓reduceIte, Nat.reduceEqDiff, reduceCtorEq]); refine retI_of ?_ ?_ <;> simp only [go_sem, v1, e0, e1, List.length_take, List.length_replicate, g1, g4, g5, g6, g7, g8, implies_true, and_self, imp_self, false_implies, AV.tuple.injEq, exists_eq_left', ne_eq])
theorem tuntil_con (env : Env) (now : Int) (l : List Due) (M : Mp) (hl : l.length ≤ 4096) : ConI Tryd.prog env 16 [1000, 1001, 1002, 6] (fun k => k == 6) (fun g => [.loc 1000 (g 1000) 0 0, I now]) (fun g => AG g l M) (fun g => AG g l M ++ [(6, ⟨3, (untilW (sortD l) now).map dueC, 32, true⟩)]) (fun g => .row 6 (g 6)) := by
  have f1 := tall_con env l M hl
  have hls : (sortD l).length ≤ 4096 := by rw [sortD, List.length_mergeSort]; exact hl
  have f2 := deleteF_con env (sortD l) (fun d => decide (now < d.at_)) 38 (.int .i64 now) 3 (late_con env now) hls
  have hq : ((sortD l).filter fun d => !decide (now < d.at_)) = untilW (sortD l) now := by
    unfold untilW
    apply List.filter_congr
    intro d _
    rw [← decide_not]
    exact decide_eq_decide.2 Int.not_lt
  rw [hq] at f2
  refine ⟨Tryd.call16, _, _, Tryd.func16, rfl, (by intro _; rw [Tryd.ntmps16]; simp), ?_⟩
  intro vs esc hesc
  rw [Tryd.ntmps16, Tryd.results16]
  have e0 := hesc 1000 (by simp)
  have e1 := hesc 1001 (by simp)
  have e2 := hesc 1002 (by simp)
  have e3 := hesc 6 (by simp)
  repeat (first | refine aops_op' rfl (by simp only [go_sem, AG, e0, e1, e2, e3]; exact ⟨rfl, rfl⟩) ?_ | refine g_run ?_ | refine g_off ?_ | refine aops_nil (d_end ?_) | refine aops_nil ?_ | refine awp_seq ?_ | refine g_text ?_ | refine g_draw Tryd.mixed ?_ | refine awp_block ?_ | refine awp_skip ?_ | (refine awp_exit ?_; simp only [thenA, blockA, ↓reduceIte, Nat.reduceEqDiff, reduceCtorEq]) | refine awp_yes' (by simp only [go_sem, AG, e0, e1, e2, e3]; exact Is.rfl') ?_ | refine awp_no' (by simp only [go_sem, AG, e0, e1, e2, e3]; exact Is.rfl') ?_)
  refine aops_inl [(1000, 1000), (1001, 1001), (1002, 1002), (9, 6)] rfl (f1) (by decide) (by decide) (by simp only [go_sem, AG, e0, e1, e2, e3] <;> rfl) (by simp only [go_sem, AG, e0, e1, e2, e3, and_self] <;> trivial) (by simp only [go_sem, AG, e0, e1, e2, e3, and_self] <;> trivial) (by intro o; simp only [go_sem, AG, e0, e1, e2, e3, behind, and_self] <;> trivial) (by intro o; simp only [go_sem, AG, e0, e1, e2, e3] <;> rfl) (by simp only [go_sem, AG, e0, e1, e2, e3, behind]; exact Is.rfl') (by simp only [go_sem, AG, e0, e1, e2, e3, behind]; exact Is.rfl') ?_
  repeat (first | refine aops_op' rfl (by simp only [go_sem, AG, e0, e1, e2, e3]; exact ⟨rfl, rfl⟩) ?_ | refine g_run ?_ | refine g_off ?_ | refine aops_nil (d_end ?_) | refine aops_nil ?_ | refine awp_seq ?_ | refine g_text ?_ | refine g_draw Tryd.mixed ?_ | refine awp_block ?_ | refine awp_skip ?_ | (refine awp_exit ?_; simp only [thenA, blockA, ↓reduceIte, Nat.reduceEqDiff, reduceCtorEq]) | refine awp_yes' (by simp only [go_sem, AG, e0, e1, e2, e3]; exact Is.rfl') ?_ | refine awp_no' (by simp only [go_sem, AG, e0, e1, e2, e3]; exact Is.rfl') ?_)
  refine aops_inl [(1000, 6), (1001, 3)] rfl (f2) (by decide) (by decide) (by simp only [go_sem, AG, e0, e1, e2, e3] <;> rfl) (by simp only [go_sem, AG, e0, e1, e2, e3, and_self] <;> trivial) (by simp only [go_sem, AG, e0, e1, e2, e3, and_self] <;> trivial) (by intro o; simp only [go_sem, AG, e0, e1, e2, e3, behind, and_self] <;> trivial) (by intro o; simp only [go_sem, AG, e0, e1, e2, e3] <;> rfl) (by simp only [go_sem, AG, e0, e1, e2, e3, behind]; exact Is.rfl') (by simp only [go_sem, AG, e0, e1, e2, e3, behind]; exact Is.rfl') ?_
  repeat (first | refine aops_op' rfl (by simp only [go_sem, AG, e0, e1, e2, e3]; exact ⟨rfl, rfl⟩) ?_ | refine g_run ?_ | refine g_off ?_ | refine aops_nil (d_end ?_) | refine aops_nil ?_ | refine awp_seq ?_ | refine g_text ?_ | refine g_draw Tryd.mixed ?_ | refine awp_block ?_ | refine awp_skip ?_ | (refine awp_exit ?_; simp only [thenA, blockA, ↓reduceIte, Nat.reduceEqDiff, reduceCtorEq]) | refine awp_yes' (by simp only [go_sem, AG, e0, e1, e2, e3]; exact Is.rfl') ?_ | refine awp_no' (by simp only [go_sem, AG, e0, e1, e2, e3]; exact Is.rfl') ?_)
  (refine awp_ret ?_; (try simp only [thenA, blockA, ↓reduceIte, Nat.reduceEqDiff, reduceCtorEq]); refine retI_of ?_ ?_ <;> simp only [go_sem, AG, e0, e1, e2, e3, implies_true, and_self, imp_self, false_implies, AV.tuple.injEq, exists_eq_left', ne_eq])
end Go.Proofs.YthepkabfiooabaaDoor
