/- The document's answers about dues: Drop, Add, Put, Same. -/
import Derived.Test.YthepkabfiooabaaDoorTL
set_option linter.unusedSimpArgs false
namespace Go.Proofs.YthepkabfiooabaaDoor
open Go.RowKit
set_option maxRecDepth 100000
set_option maxHeartbeats 4000000
attribute [local go_sem_proc ↓] reduceIte
attribute [local go_sem_proc] reduceCtorEq Nat.reduceBEq Nat.reduceAdd Nat.reduceSub Nat.reduceEqDiff Nat.reduceLT Nat.reduceLeDiff Nat.reduceMul Int.reduceToNat Int.reduceBEq Int.reduceBNe Int.reduceEq Int.reduceLT Int.reduceLE
attribute [local go_sem] ev_clear ev_makeFunc funcRd evClear List.isEmpty_cons Array.isEmpty_iff ev_makeMap ev_lookup ev_mapUpdate ev_delete evMakeMap evLookup evMapUpdate evDelete pureOf keyCmp mfind oneCells Rd.map AV.bare AV.bare.bareL AV.ofVal resRd resOne resAll HoldF HoldR Takes thenA blockA ev_move ev_assign ev_pick ev_alloc ev_box ev_build ev_buildSlice ev_load ev_store ev_binOp ev_unOp ev_convert ev_iface ev_make ev_slice ev_fieldAddr ev_field ev_indexAddr ev_index ev_extract ev_len ev_append ev_min ev_max evMin evMax gt_tmp gt_int gt_bool gt_str gt_nilS gt_nilP gt_nilI pickRd allocRd buildRd sliceRd loadRd unRd ifaceRd exRd val optRd callRd seen AV.plain adopt fzArgs Rd.run AV.asCells newBox runL Comes' Rd.row Rd.bind Out.app apps Eff.app St.renew St.setRow St.show St.put St.init upd evStore evBinR evBin eqFs eqCell evConv evSeq evLen evIndexAddr evFieldAddr evField evIndex bound evSlice evSliceF evAppend evMake loadOf fillAV fillEs fzParts fz fzCell fzCells shows isConstOp splice wrs wes Value.oneCell' List.getD_cons_zero List.getD_cons_succ List.getD_nil List.length_cons List.length_nil List.map_cons List.map_nil List.nil_append List.cons_append List.all_cons List.all_nil List.getElem?_cons_zero List.getElem?_cons_succ List.set_cons_zero List.set_cons_succ List.take_succ_cons List.take_zero List.drop_succ_cons List.drop_zero List.take_nil List.drop_nil List.replicate_succ List.replicate_zero Bool.and_true Bool.true_and Bool.and_self and_self true_and and_true Nat.zero_add Nat.add_zero Option.some.injEq Nat.zero_lt_succ Bool.not_true Bool.not_false ne_eq not_true_eq_false not_false_eq_true Option.map_some Option.map_none List.toList_toArray head headF headR List.length_map Int.toNat_natCast Int.natCast_nonneg List.getElem?_map decide_true decide_false Bool.false_eq_true if_true if_false Bool.or_self Bool.or_true Bool.true_or Bool.false_or Bool.or_false Bool.and_false Bool.false_and List.flatten_cons List.flatten_nil List.append_nil nat0 or_self or_false false_or or_true true_or and_false false_and List.length_append List.isEmpty_nil bne_self_eq_false beq_self_eq_true fits_small strL_l bytesOf_map wants Int.cast_ofNat_Int gt_iff_lt ge_iff_le
attribute [local go_sem ←] List.map_drop List.map_take

abbrev dues (w : List Due) : AV := .seq 3 (w.map dueC)
def keepB (k : Wh) (d : Due) : Bool := d.inst != k.1 || !(d.name == k.2)
def dropW (w : List Due) (k : Wh) : List Due := w.filter (keepB k)
theorem take_next {α : Type} {l : List α} {n : Nat} {x : α} (h : l[n]? = some x) : l.take (n + 1) = l.take n ++ [x] := by rw [List.take_add_one, h]; rfl
theorem filter_len {α : Type} (p : α → Bool) (l : List α) (n : Nat) : ((l.take n).filter p).length ≤ l.length := Nat.le_trans (List.length_filter_le _ _) (by rw [List.length_take]; omega)
theorem rdrop_con (env : Env) (w : List Due) (n0 : Int) (s : List UInt8) (hw : w.length ≤ 4000) : Con Tryd.prog env 41 [dues w, I n0, Sg s] (.tuple [dues (dropW w (n0, s)), B (decide ((dropW w (n0, s)).length < w.length))]) := by
  refine con_of_body Tryd.func41 rfl Tryd.call41 (by rw [Tryd.ntmps41]; simp) ?_
  rw [Tryd.ntmps41, Tryd.results41]
  repeat (first | refine aops_op' rfl (by simp only [go_sem]; exact ⟨rfl, rfl⟩) ?_ | refine g_run ?_ | refine g_off ?_ | refine aops_nil (d_end ?_) | refine aops_nil ?_ | refine awp_seq ?_ | refine g_text ?_ | refine g_draw Tryd.mixed ?_ | refine awp_block ?_ | refine awp_skip ?_ | (refine awp_exit ?_; simp only [thenA, blockA, ↓reduceIte, Nat.reduceEqDiff, reduceCtorEq]) | refine awp_yes' (by simp only [go_sem]; exact Is.rfl') ?_ | refine awp_no' (by simp only [go_sem]; exact Is.rfl') ?_)
  refine awp_loopH (D := Nat) (fun n vs => [(0, dues w), (1, I n0), (2, Sg s), (8, .row 10 (vs 10)), (9, I n)]) (fun n vs => [(10, ⟨3, ((w.take n).filter (keepB (n0, s))).map dueC, 32, true⟩)]) (fun n _ esc => n ≤ w.length ∧ esc 10 = false) (fun n => w.length - n) 0 ?_ ?_ ?_ ?_
  · exact ⟨Nat.zero_le _, by simp only [go_sem]⟩
  · (simp only [go_sem])
  · (simp only [go_sem])
    rfl
  rintro n vs esc ⟨hn, hesc⟩
  by_cases hlt : n < w.length
  · obtain ⟨d, hd⟩ : ∃ x, w[n]? = some x := ⟨w[n], List.getElem?_eq_getElem hlt⟩
    have g1 := nlt hlt
    have g2 := wrap_succ hlt (by omega)
    have g3 : Fits (((w.take n).filter (keepB (n0, s))).length + 1) 32 := fits_small (by have := filter_len (keepB (n0, s)) w n; omega) (by omega)
    by_cases h1 : d.inst = n0
    · have e1 : (d.inst != n0) = false := by simp [h1]
      cases e2 : (d.name == s)
      · have hk : keepB (n0, s) d = true := by simp only [keepB, e1, e2]; rfl
        have hs : ((w.take n).filter (keepB (n0, s))).map dueC ++ [dueC d] = ((w.take (n + 1)).filter (keepB (n0, s))).map dueC := by rw [take_next hd, List.filter_append]; simp [hk]
        simp only [dueC] at hs
        repeat (first | refine aops_op' rfl (by simp only [go_sem, dueC, hd, g1, g2, g3, e1, e2, hesc, hs]; exact ⟨rfl, rfl⟩) ?_ | refine g_run ?_ | refine g_off ?_ | refine aops_nil (d_end ?_) | refine aops_nil ?_ | refine awp_seq ?_ | refine g_text ?_ | refine g_draw Tryd.mixed ?_ | refine awp_block ?_ | refine awp_skip ?_ | (refine awp_exit ?_; simp only [thenA, blockA, ↓reduceIte, Nat.reduceEqDiff, reduceCtorEq]) | refine awp_yes' (by simp only [go_sem, dueC, hd, g1, g2, g3, e1, e2, hesc, hs]; exact Is.rfl') ?_ | refine awp_no' (by simp only [go_sem, dueC, hd, g1, g2, g3, e1, e2, hesc, hs]; exact Is.rfl') ?_)
        refine ⟨n + 1, ⟨hlt, by simp only [go_sem, hesc]⟩, ?_, ?_, ?_⟩
        · (simp only [go_sem, dueC, hd, g1, g2, g3, e1, e2, hesc, hs])
        · (simp only [go_sem, dueC, hd, g1, g2, g3, e1, e2, hesc, hs])
        · omega
      · have hk : keepB (n0, s) d = false := by simp only [keepB, e1, e2]; rfl
        have hs : ((w.take (n + 1)).filter (keepB (n0, s))) = (w.take n).filter (keepB (n0, s)) := by rw [take_next hd, List.filter_append]; simp [hk]
        repeat (first | refine aops_op' rfl (by simp only [go_sem, dueC, hd, g1, g2, g3, e1, e2, hesc]; exact ⟨rfl, rfl⟩) ?_ | refine g_run ?_ | refine g_off ?_ | refine aops_nil (d_end ?_) | refine aops_nil ?_ | refine awp_seq ?_ | refine g_text ?_ | refine g_draw Tryd.mixed ?_ | refine awp_block ?_ | refine awp_skip ?_ | (refine awp_exit ?_; simp only [thenA, blockA, ↓reduceIte, Nat.reduceEqDiff, reduceCtorEq]) | refine awp_yes' (by simp only [go_sem, dueC, hd, g1, g2, g3, e1, e2, hesc]; exact Is.rfl') ?_ | refine awp_no' (by simp only [go_sem, dueC, hd, g1, g2, g3, e1, e2, hesc]; exact Is.rfl') ?_)
        refine ⟨n + 1, ⟨hlt, by simp only [go_sem, hesc]⟩, ?_, ?_, ?_⟩
        · (simp only [go_sem, dueC, hd, g1, g2, g3, e1, e2, hesc])
        · rw [hs]; (simp only [go_sem, dueC, hd, g1, g2, g3, e1, e2, hesc])
        · omega
    · have e1 : (d.inst != n0) = true := by simp [h1]
      have hk : keepB (n0, s) d = true := by simp only [keepB, e1]; rfl
      have hs : ((w.take n).filter (keepB (n0, s))).map dueC ++ [dueC d] = ((w.take (n + 1)).filter (keepB (n0, s))).map dueC := by rw [take_next hd, List.filter_append]; simp [hk]
      simp only [dueC] at hs
      repeat (first | refine aops_op' rfl (by simp only [go_sem, dueC, hd, g1, g2, g3, e1, hesc, hs]; exact ⟨rfl, rfl⟩) ?_ | refine g_run ?_ | refine g_off ?_ | refine aops_nil (d_end ?_) | refine aops_nil ?_ | refine awp_seq ?_ | refine g_text ?_ | refine g_draw Tryd.mixed ?_ | refine awp_block ?_ | refine awp_skip ?_ | (refine awp_exit ?_; simp only [thenA, blockA, ↓reduceIte, Nat.reduceEqDiff, reduceCtorEq]) | refine awp_yes' (by simp only [go_sem, dueC, hd, g1, g2, g3, e1, hesc, hs]; exact Is.rfl') ?_ | refine awp_no' (by simp only [go_sem, dueC, hd, g1, g2, g3, e1, hesc, hs]; exact Is.rfl') ?_)
      refine ⟨n + 1, ⟨hlt, by simp only [go_sem, hesc]⟩, ?_, ?_, ?_⟩
      · (simp only [go_sem, dueC, hd, g1, g2, g3, e1, hesc, hs])
      · (simp only [go_sem, dueC, hd, g1, g2, g3, e1, hesc, hs])
      · omega
  · have g1 : ¬ (n : Int) < (w.length : Int) := by omega
    have hs : (w.take n).filter (keepB (n0, s)) = dropW w (n0, s) := by rw [List.take_of_length_le (by omega)]; rfl
    repeat (first | refine aops_op' rfl (by simp only [go_sem, g1, hesc, hs]; exact ⟨rfl, rfl⟩) ?_ | refine g_run ?_ | refine g_off ?_ | refine aops_nil (d_end ?_) | refine aops_nil ?_ | refine awp_seq ?_ | refine g_text ?_ | refine g_draw Tryd.mixed ?_ | refine awp_block ?_ | refine awp_skip ?_ | (refine awp_exit ?_; simp only [thenA, blockA, ↓reduceIte, Nat.reduceEqDiff, reduceCtorEq]) | refine awp_yes' (by simp only [go_sem, g1, hesc, hs]; exact Is.rfl') ?_ | refine awp_no' (by simp only [go_sem, g1, hesc, hs]; exact Is.rfl') ?_)
    (refine awp_ret ?_; show (resRd _ _ _).run _ = some _; simp only [go_sem, g1, hesc, hs])
    simp
def ins (d : Due) : Bool → List Due → List Due
  | done, [] => if done then [] else [d]
  | done, e :: w => if (!done && dueLess d e) = true then d :: e :: ins d true w else e :: ins d done w
def addW (w : List Due) (d : Due) : List Due := ins d false w
theorem ins_true (d : Due) : ∀ w, ins d true w = w
  | [] => rfl
  | e :: w => by simp [ins, ins_true d w]
theorem drop_cons {α : Type} {l : List α} {n : Nat} {x : α} (h : l[n]? = some x) : l.drop n = x :: l.drop (n + 1) := by
  obtain ⟨hn, he⟩ := List.getElem?_eq_some_iff.1 h
  rw [List.drop_eq_getElem_cons hn, he]
theorem radd_con (env : Env) (w : List Due) (d : Due) (hw : w.length ≤ 4000) : Con Tryd.prog env 44 [dues w, .agg (dueC d)] (.own 32 3 ((addW w d).map dueC)) := by
  refine con_of_body Tryd.func44 rfl Tryd.call44 (by rw [Tryd.ntmps44]; simp) ?_
  rw [Tryd.ntmps44, Tryd.results44]
  repeat (first | refine aops_op' rfl (by simp only [go_sem]; exact ⟨rfl, rfl⟩) ?_ | refine g_run ?_ | refine g_off ?_ | refine aops_nil (d_end ?_) | refine aops_nil ?_ | refine awp_seq ?_ | refine g_text ?_ | refine g_draw Tryd.mixed ?_ | refine awp_block ?_ | refine awp_skip ?_ | (refine awp_exit ?_; simp only [thenA, blockA, ↓reduceIte, Nat.reduceEqDiff, reduceCtorEq]) | refine awp_yes' (by simp only [go_sem]; exact Is.rfl') ?_ | refine awp_no' (by simp only [go_sem]; exact Is.rfl') ?_)
  refine awp_loopH (D := Nat × List Due × Bool) (fun x vs => [(0, dues w), (3, .loc 3 (vs 3) 0 0), (5, .row 8 (vs 8)), (6, B x.2.2), (7, I x.1)]) (fun x vs => [(3, ⟨3, [dueC d], 32, false⟩), (8, ⟨3, x.2.1.map dueC, 32, true⟩)]) (fun x _ esc => (x.1 ≤ w.length ∧ x.2.1 ++ ins d x.2.2 (w.drop x.1) = addW w d ∧ x.2.1.length ≤ x.1 + x.2.2.toNat) ∧ esc 8 = false) (fun x => w.length - x.1) (0, [], false) ?_ ?_ ?_ ?_
  · exact ⟨⟨Nat.zero_le _, rfl, by simp⟩, by simp only [go_sem]⟩
  · (simp only [go_sem])
  · (simp only [go_sem, dueC])
  rintro ⟨n, out, done⟩ vs esc ⟨⟨hn, hinv, hlen⟩, hesc⟩
  simp only at hn hinv hlen
  have hlen' : out.length ≤ n + 1 := by cases done <;> simp at hlen <;> omega
  by_cases hlt : n < w.length
  · obtain ⟨e, he⟩ : ∃ x, w[n]? = some x := ⟨w[n], List.getElem?_eq_getElem hlt⟩
    have g1 := nlt hlt
    have g2 := wrap_succ hlt (by omega)
    have g3 : Fits (out.length + 1) 32 := fits_small (by omega) (by omega)
    have g4 : Fits (out.length + 1 + 1) 32 := fits_small (by omega) (by omega)
    have hd2 : out.map dueC ++ [dueC e] = (out ++ [e]).map dueC := by simp
    rw [drop_cons he] at hinv
    cases done with
    | true =>
      rw [ins_true] at hinv
      have h2 : (out ++ [e]) ++ ins d true (w.drop (n + 1)) = addW w d := by rw [ins_true, ← hinv]; simp
      simp only [dueC] at hd2
      repeat (first | refine aops_op' rfl (by simp only [go_sem, dueC, he, g1, g2, g3, hesc, hd2]; exact ⟨rfl, rfl⟩) ?_ | refine g_run ?_ | refine g_off ?_ | refine aops_nil (d_end ?_) | refine aops_nil ?_ | refine awp_seq ?_ | refine g_text ?_ | refine g_draw Tryd.mixed ?_ | refine awp_block ?_ | refine awp_skip ?_ | (refine awp_exit ?_; simp only [thenA, blockA, ↓reduceIte, Nat.reduceEqDiff, reduceCtorEq]) | refine awp_yes' (by simp only [go_sem, dueC, he, g1, g2, g3, hesc, hd2]; exact Is.rfl') ?_ | refine awp_no' (by simp only [go_sem, dueC, he, g1, g2, g3, hesc, hd2]; exact Is.rfl') ?_)
      refine ⟨(n + 1, out ++ [e], true), ⟨⟨hlt, h2, by simp at hlen ⊢; omega⟩, by simp only [go_sem, hesc]⟩, ?_, ?_, ?_⟩
      · (simp only [go_sem, dueC, he, g1, g2, g3, hesc, hd2])
      · (simp only [go_sem, dueC, he, g1, g2, g3, hesc, hd2])
      · omega
    | false =>
      have f1 := rless_con env d e
      cases hde : dueLess d e with
      | true =>
        rw [hde] at f1
        have h2 : (out ++ [d] ++ [e]) ++ ins d true (w.drop (n + 1)) = addW w d := by rw [← hinv]; simp [ins, hde]
        have hd1 : out.map dueC ++ [dueC d] = (out ++ [d]).map dueC := by simp
        have hd3 : (out ++ [d]).map dueC ++ [dueC e] = (out ++ [d] ++ [e]).map dueC := by simp
        simp only [dueC] at hd1 hd3
        repeat (first | refine aops_op' rfl (by simp only [go_sem, dueC, he, g1, g2, g3, g4, hesc, hd1, hd3]; exact ⟨rfl, rfl⟩) ?_ | refine g_run ?_ | refine g_off ?_ | refine aops_call' rfl (f1) (by simp only [go_sem, dueC, he, g1, g2, g3, g4, hesc, hd1, hd3]; exact Is.rfl') (by simp only [go_sem, dueC, he, g1, g2, g3, g4, hesc, hd1, hd3]; exact ⟨rfl, rfl⟩) ?_ | refine aops_nil (d_end ?_) | refine aops_nil ?_ | refine awp_seq ?_ | refine g_text ?_ | refine g_draw Tryd.mixed ?_ | refine awp_block ?_ | refine awp_skip ?_ | (refine awp_exit ?_; simp only [thenA, blockA, ↓reduceIte, Nat.reduceEqDiff, reduceCtorEq]) | refine awp_yes' (by simp only [go_sem, dueC, he, g1, g2, g3, g4, hesc, hd1, hd3]; exact Is.rfl') ?_ | refine awp_no' (by simp only [go_sem, dueC, he, g1, g2, g3, g4, hesc, hd1, hd3]; exact Is.rfl') ?_)
        refine ⟨(n + 1, out ++ [d] ++ [e], true), ⟨⟨hlt, h2, by simp at hlen ⊢; omega⟩, by simp only [go_sem, hesc]⟩, ?_, ?_, ?_⟩
        · (simp only [go_sem, dueC, he, g1, g2, g3, g4, hesc, hd1, hd3])
        · (simp only [go_sem, dueC, he, g1, g2, g3, g4, hesc, hd1, hd3])
        · omega
      | false =>
        rw [hde] at f1
        have h2 : (out ++ [e]) ++ ins d false (w.drop (n + 1)) = addW w d := by rw [← hinv]; simp [ins, hde]
        simp only [dueC] at hd2 
        repeat (first | refine aops_op' rfl (by simp only [go_sem, dueC, he, g1, g2, g3, hesc, hd2]; exact ⟨rfl, rfl⟩) ?_ | refine g_run ?_ | refine g_off ?_ | refine aops_call' rfl (f1) (by simp only [go_sem, dueC, he, g1, g2, g3, hesc, hd2]; exact Is.rfl') (by simp only [go_sem, dueC, he, g1, g2, g3, hesc, hd2]; exact ⟨rfl, rfl⟩) ?_ | refine aops_nil (d_end ?_) | refine aops_nil ?_ | refine awp_seq ?_ | refine g_text ?_ | refine g_draw Tryd.mixed ?_ | refine awp_block ?_ | refine awp_skip ?_ | (refine awp_exit ?_; simp only [thenA, blockA, ↓reduceIte, Nat.reduceEqDiff, reduceCtorEq]) | refine awp_yes' (by simp only [go_sem, dueC, he, g1, g2, g3, hesc, hd2]; exact Is.rfl') ?_ | refine awp_no' (by simp only [go_sem, dueC, he, g1, g2, g3, hesc, hd2]; exact Is.rfl') ?_)
        refine ⟨(n + 1, out ++ [e], false), ⟨⟨hlt, h2, by simp at hlen ⊢; omega⟩, by simp only [go_sem, hesc]⟩, ?_, ?_, ?_⟩
        · (simp only [go_sem, dueC, he, g1, g2, g3, hesc, hd2])
        · (simp only [go_sem, dueC, he, g1, g2, g3, hesc, hd2])
        · omega
  · have g1 : ¬ (n : Int) < (w.length : Int) := by omega
    rw [List.drop_eq_nil_of_le (by omega)] at hinv
    have g3 : Fits (out.length + 1) 32 := fits_small (by omega) (by omega)
    cases done with
    | true =>
      have hinv : addW w d = out := by simpa [ins] using hinv.symm
      rw [hinv]
      repeat (first | refine aops_op' rfl (by simp only [go_sem, dueC, g1, hesc]; exact ⟨rfl, rfl⟩) ?_ | refine g_run ?_ | refine g_off ?_ | refine aops_nil (d_end ?_) | refine aops_nil ?_ | refine awp_seq ?_ | refine g_text ?_ | refine g_draw Tryd.mixed ?_ | refine awp_block ?_ | refine awp_skip ?_ | (refine awp_exit ?_; simp only [thenA, blockA, ↓reduceIte, Nat.reduceEqDiff, reduceCtorEq]) | refine awp_yes' (by simp only [go_sem, dueC, g1, hesc]; exact Is.rfl') ?_ | refine awp_no' (by simp only [go_sem, dueC, g1, hesc]; exact Is.rfl') ?_)
      (refine awp_ret ?_; show (resRd _ _ _).run _ = some _; simp only [go_sem, dueC, g1, hesc])
    | false =>
      have hd1 : out.map dueC ++ [dueC d] = (addW w d).map dueC := by rw [← hinv]; simp [ins]
      simp only [dueC] at hd1
      repeat (first | refine aops_op' rfl (by simp only [go_sem, dueC, g1, g3, hesc, hd1]; exact ⟨rfl, rfl⟩) ?_ | refine g_run ?_ | refine g_off ?_ | refine aops_nil (d_end ?_) | refine aops_nil ?_ | refine awp_seq ?_ | refine g_text ?_ | refine g_draw Tryd.mixed ?_ | refine awp_block ?_ | refine awp_skip ?_ | (refine awp_exit ?_; simp only [thenA, blockA, ↓reduceIte, Nat.reduceEqDiff, reduceCtorEq]) | refine awp_yes' (by simp only [go_sem, dueC, g1, g3, hesc, hd1]; exact Is.rfl') ?_ | refine awp_no' (by simp only [go_sem, dueC, g1, g3, hesc, hd1]; exact Is.rfl') ?_)
      (refine awp_ret ?_; show (resRd _ _ _).run _ = some _; simp only [go_sem, dueC, g1, g3, hesc, hd1])
end Go.Proofs.YthepkabfiooabaaDoor
