/- The keys of a record's timers: the document's Timers, Same; walked. -/
import Derived.Test.YtbnanjcghhfcpaaDoorIQ
import Derived.Test.YtbnanjcghhfcpaaDoorVR
set_option linter.unusedSimpArgs false
namespace Go.Proofs.YtbnanjcghhfcpaaDoor
open Go.RowKit
set_option maxRecDepth 100000
set_option maxHeartbeats 8000000
attribute [local go_sem_proc ↓] reduceIte
attribute [local go_sem_proc] reduceCtorEq Nat.reduceAdd Nat.reduceSub Nat.reduceEqDiff Nat.reduceLT Nat.reduceLeDiff Nat.reduceMul Int.reduceToNat Int.reduceBEq Int.reduceBNe Int.reduceEq Int.reduceLT Int.reduceLE
attribute [local go_sem] resRd resOne resAll HoldF HoldR Takes thenA blockA ev_move ev_assign ev_pick ev_alloc ev_box ev_build ev_buildSlice ev_load ev_store ev_binOp ev_unOp ev_convert ev_iface ev_make ev_slice ev_fieldAddr ev_field ev_indexAddr ev_index ev_extract ev_len ev_append ev_min ev_max evMin evMax gt_tmp gt_int gt_bool gt_str gt_nilS gt_nilP gt_nilI pickRd allocRd buildRd sliceRd loadRd unRd ifaceRd exRd val optRd callRd seen AV.plain adopt fzArgs Rd.run AV.asCells newBox runL Comes' Rd.row Rd.bind Out.app apps Eff.app St.renew St.setRow St.show St.put St.init upd evStore evBin eqFs eqCell evConv evSeq evLen evIndexAddr evFieldAddr evField evIndex bound evSlice evAppend evMake loadOf fillAV fillEs fzParts fz fzCell fzCells shows isConstOp splice wrs wes Value.oneCell' List.getD_cons_zero List.getD_cons_succ List.getD_nil List.length_cons List.length_nil List.map_cons List.map_nil List.nil_append List.cons_append List.all_cons List.all_nil List.getElem?_cons_zero List.getElem?_cons_succ List.set_cons_zero List.set_cons_succ List.take_succ_cons List.take_zero List.drop_succ_cons List.drop_zero List.take_nil List.drop_nil List.replicate_succ List.replicate_zero Bool.and_true Bool.true_and Bool.and_self and_self true_and and_true Nat.zero_add Nat.add_zero Option.some.injEq Nat.zero_lt_succ Bool.not_true Bool.not_false ne_eq not_true_eq_false not_false_eq_true Option.map_some Option.map_none List.toList_toArray head headF headR List.length_map Int.toNat_natCast Int.natCast_nonneg List.getElem?_map decide_true decide_false Bool.false_eq_true if_true if_false Bool.or_self Bool.or_true Bool.true_or Bool.false_or Bool.or_false Bool.and_false Bool.false_and List.flatten_cons List.flatten_nil List.append_nil nat0 or_self or_false false_or or_true true_or and_false false_and List.length_append List.isEmpty_nil bne_self_eq_false beq_self_eq_true fits_small strL_l bytesOf_map wants Int.cast_ofNat_Int gt_iff_lt ge_iff_le
attribute [local go_sem ←] List.map_drop List.map_take

theorem same12_con (env : Env) (l : List Pr) (hl : l.length ≤ 1000) : Con Tryd.prog env 15 [.seq 2 (l.map prAV), .seq 2 (l.map prAV)] (B true) := by
  have g0 : ((l.length : Int) != (l.length : Int)) = false := by simp
  refine con_of_body Tryd.func15 rfl Tryd.call15 (by rw [Tryd.ntmps15]; simp) ?_
  rw [Tryd.ntmps15, Tryd.results15]
  repeat (first | refine aops_op' rfl (by simp only [go_sem, g0]; exact ⟨rfl, rfl⟩) ?_ | refine g_run ?_ | refine g_off ?_ | refine aops_nil (d_end ?_) | refine aops_nil ?_ | refine awp_seq ?_ | refine g_text ?_ | refine g_draw Tryd.mixed ?_ | refine awp_block ?_ | refine awp_skip ?_ | (refine awp_exit ?_; simp only [thenA, blockA, ↓reduceIte, Nat.reduceEqDiff, reduceCtorEq]) | refine awp_yes' (by simp only [go_sem, g0]; exact Is.rfl') ?_ | refine awp_no' (by simp only [go_sem, g0]; exact Is.rfl') ?_)
  refine awp_loopH (D := Nat) (fun i _ => [(0, .seq 2 (l.map prAV)), (1, .seq 2 (l.map prAV)), (5, I i)]) (fun _ _ => []) (fun i _ _ => i ≤ l.length) (fun i => l.length - i) 0 ?_ ?_ ?_ ?_
  · exact Nat.zero_le _
  · (simp only [go_sem, g0])
  · (simp only [go_sem, g0])
  rintro i vs esc hi
  by_cases hlt : i < l.length
  · have g1 := nlt hlt
    have g2 := wrap_succ hlt (by omega)
    obtain ⟨x, hx⟩ : ∃ x, l[i]? = some x := ⟨l[i], List.getElem?_eq_getElem hlt⟩
    have g3 : (x.1 == x.1) = true := by simp
    have g4 : (x.2 == x.2) = true := by simp
    repeat (first | refine aops_op' rfl (by simp only [go_sem, g1, g2, hx, g3, g4, prAV, eqFs, eqCell]; exact ⟨rfl, rfl⟩) ?_ | refine g_run ?_ | refine g_off ?_ | refine aops_nil (d_end ?_) | refine aops_nil ?_ | refine awp_seq ?_ | refine g_text ?_ | refine g_draw Tryd.mixed ?_ | refine awp_block ?_ | refine awp_skip ?_ | (refine awp_exit ?_; simp only [thenA, blockA, ↓reduceIte, Nat.reduceEqDiff, reduceCtorEq]) | refine awp_yes' (by simp only [go_sem, g1, g2, hx, g3, g4, prAV, eqFs, eqCell]; exact Is.rfl') ?_ | refine awp_no' (by simp only [go_sem, g1, g2, hx, g3, g4, prAV, eqFs, eqCell]; exact Is.rfl') ?_)
    refine ⟨i + 1, hlt, ?_, ?_, ?_⟩
    · (simp only [go_sem, g1, g2, hx, g3, g4, prAV, eqFs, eqCell])
    · (simp only [go_sem, g1, g2, hx, g3, g4, prAV, eqFs, eqCell])
    · omega
  · have g1 : ¬ (i : Int) < (l.length : Int) := by omega
    repeat (first | refine aops_op' rfl (by simp only [go_sem, g1]; exact ⟨rfl, rfl⟩) ?_ | refine g_run ?_ | refine g_off ?_ | refine aops_nil (d_end ?_) | refine aops_nil ?_ | refine awp_seq ?_ | refine g_text ?_ | refine g_draw Tryd.mixed ?_ | refine awp_block ?_ | refine awp_skip ?_ | (refine awp_exit ?_; simp only [thenA, blockA, ↓reduceIte, Nat.reduceEqDiff, reduceCtorEq]) | refine awp_yes' (by simp only [go_sem, g1]; exact Is.rfl') ?_ | refine awp_no' (by simp only [go_sem, g1]; exact Is.rfl') ?_)
    (refine awp_ret ?_; show (resRd _ _ _).run _ = some _; simp only [go_sem, g1])

/-! A pair among sorted ones, as far as one has come -/
def doneP (x : Pr) (L : List Pr) (k : Nat) : Bool := (L.take k).any fun y => Op.bytesLess x.1 y.1
def nextP (x : Pr) (L : List Pr) (k : Nat) : List Pr := if doneP x L k then insP x (L.take k) else L.take k
theorem insP_none {x : Pr} : ∀ {l : List Pr}, (l.any fun y => Op.bytesLess x.1 y.1) = false → insP x l = l ++ [x]
  | [], _ => rfl
  | y :: l, h => by
    simp only [List.any_cons, Bool.or_eq_false_iff] at h
    unfold insP
    rw [if_neg (by rw [h.1]; simp), insP_none h.2]
    rfl
theorem insP_app {x : Pr} : ∀ {l m : List Pr}, (l.any fun y => Op.bytesLess x.1 y.1) = true → insP x (l ++ m) = insP x l ++ m
  | [], _, h => by simp at h
  | y :: l, m, h => by
    simp only [List.any_cons, Bool.or_eq_true] at h
    simp only [List.cons_append]
    unfold insP
    by_cases hy : Op.bytesLess x.1 y.1 = true
    · rw [if_pos hy, if_pos hy]; rfl
    · rw [if_neg hy, if_neg hy, insP_app (h.resolve_left hy)]; rfl
theorem insP_here {x y : Pr} : ∀ {l : List Pr}, (l.any fun y => Op.bytesLess x.1 y.1) = false → Op.bytesLess x.1 y.1 = true → insP x (l ++ [y]) = l ++ [x, y]
  | [], _, h => by simp [insP, h]
  | z :: l, hn, h => by
    simp only [List.any_cons, Bool.or_eq_false_iff] at hn
    simp only [List.cons_append]
    unfold insP
    rw [if_neg (by rw [hn.1]; simp), insP_here hn.2 h]
section
variable {x y : Pr} {L : List Pr} {k : Nat}
theorem doneP_up (hy : L[k]? = some y) : doneP x L (k + 1) = (doneP x L k || Op.bytesLess x.1 y.1) := by
  simp [doneP, List.take_add_one, hy]
theorem next_done (hy : L[k]? = some y) (h : doneP x L k = true) : nextP x L (k + 1) = nextP x L k ++ [y] := by
  unfold nextP
  rw [doneP_up hy, h]
  simp only [Bool.true_or, if_true]
  rw [List.take_add_one, hy]
  exact insP_app h
theorem next_here (hy : L[k]? = some y) (h : doneP x L k = false) (hl : Op.bytesLess x.1 y.1 = true) : nextP x L (k + 1) = nextP x L k ++ [x] ++ [y] := by
  unfold nextP
  rw [doneP_up hy, h, hl]
  simp only [Bool.false_or, if_true, Bool.false_eq_true, if_false]
  rw [List.take_add_one, hy, List.append_assoc]
  exact insP_here h hl
theorem next_not (hy : L[k]? = some y) (h : doneP x L k = false) (hl : Op.bytesLess x.1 y.1 = false) : nextP x L (k + 1) = nextP x L k ++ [y] := by
  unfold nextP
  rw [doneP_up hy, h, hl]
  simp only [Bool.false_or, Bool.false_eq_true, if_false]
  rw [List.take_add_one, hy]
  rfl
theorem next_end (h : doneP x L L.length = true) : nextP x L L.length = insP x L := by
  unfold nextP
  rw [if_pos h, List.take_length]
theorem next_last (h : doneP x L L.length = false) : nextP x L L.length ++ [x] = insP x L := by
  unfold nextP
  rw [if_neg (by rw [h]; simp), List.take_length]
  exact (insP_none (by simpa [doneP] using h)).symm
theorem nextP_len (h : k ≤ L.length) : (nextP x L k).length ≤ k + 1 := by
  unfold nextP
  split
  · have := (insP_perm x (L.take k)).length_eq
    simp only [List.length_cons, List.length_take] at this
    omega
  · simp only [List.length_take]; omega
end
theorem refP_len (ps : List Pr) : (refP ps).length ≤ ps.length := by
  unfold refP
  suffices h : ∀ (ps acc : List Pr), (ps.foldl (fun acc x => insP x acc) acc).length = acc.length + ps.length by
    have := h ps []
    simp only [List.length_nil] at this
    omega
  intro ps
  induction ps with
  | nil => intro acc; simp
  | cons x ps ih =>
    intro acc
    rw [List.foldl_cons, ih]
    have := (insP_perm x acc).length_eq
    simp only [List.length_cons] at this ⊢
    omega
theorem map_snoc {α β : Type} (f : α → β) (l m : List α) (x : α) (h : m = l ++ [x]) : l.map f ++ [f x] = m.map f := by rw [h, List.map_append]; rfl

theorem rtimers_con (env : Env) (r : Rc) (inst : Nat) (hi : 1 ≤ inst) (hi' : inst ≤ 2147483647) (hts : okTs r.timers) : Con Tryd.prog env 16 [.agg (recAV r), I inst] (.own 72 2 ((refP (tkL inst r.timers r.timers.length)).map prAV)) := by
  obtain ⟨hk, hb⟩ := hts
  refine con_of_body Tryd.func16 rfl Tryd.call16 (by rw [Tryd.ntmps16]; simp) ?_
  rw [Tryd.ntmps16, Tryd.results16]
  repeat (first | refine aops_op' rfl (by simp only [go_sem, recAV]; exact ⟨rfl, rfl⟩) ?_ | refine g_run ?_ | refine g_off ?_ | refine aops_nil (d_end ?_) | refine aops_nil ?_ | refine awp_seq ?_ | refine g_text ?_ | refine g_draw Tryd.mixed ?_ | refine awp_block ?_ | refine awp_skip ?_ | (refine awp_exit ?_; simp only [thenA, blockA, ↓reduceIte, Nat.reduceEqDiff, reduceCtorEq]) | refine awp_yes' (by simp only [go_sem, recAV]; exact Is.rfl') ?_ | refine awp_no' (by simp only [go_sem, recAV]; exact Is.rfl') ?_)
  refine awp_rename 13 44 5 ⟨2, [], 72, true⟩ (by decide) rfl (by simp only [go_sem]; exact Is.rfl') (by simp only [go_sem]; exact Is.rfl') (by simp only [go_sem]; exact Is.rfl') ?_
  refine awp_loopH (D := Nat) (fun i vs => [(1, I inst), (2, .loc 2 (vs 2) 0 0), (5, .row 44 (vs 44)), (6, I i)]) (fun i _ => [(2, ⟨8, [recAV r], 44, false⟩), (44, ⟨2, (refP (tkL inst r.timers i)).map prAV, 72, true⟩)]) (fun i _ esc => i ≤ r.timers.length ∧ esc 44 = false) (fun i => r.timers.length - i) 0 ?_ ?_ ?_ ?_
  · exact ⟨Nat.zero_le _, rfl⟩
  · (simp only [go_sem, recAV])
  · (simp only [go_sem, recAV])
    rfl
  rintro i ws esc ⟨hle, hesc⟩
  by_cases hlt : i < r.timers.length
  · have g1 := nlt hlt
    have g2 := wrap_succ hlt (by omega)
    obtain ⟨⟨nm, at_⟩, hx⟩ : ∃ x, r.timers[i]? = some x := ⟨r.timers[i], List.getElem?_eq_getElem hlt⟩
    obtain ⟨a, ea, ha⟩ := hb i _ hx
    simp only at ea
    subst ea
    have f4 := rkey_con env a inst i ha hi hi' (by omega)
    obtain ⟨L, hL⟩ : ∃ L, refP (tkL inst r.timers i) = L := ⟨_, rfl⟩
    have hup : refP (tkL inst r.timers (i + 1)) = insP (timerKey a inst i, nm) L := by rw [tkL_up hx, refP_snoc, hL]
    have hLl : L.length ≤ 8 := by
      have := refP_len (tkL inst r.timers i)
      rw [tkL_len, hL] at this
      omega
    rw [hL]
    refine awp_rename 44 13 5 ⟨2, L.map prAV, 72, true⟩ (by decide) rfl (by simp only [go_sem]; exact Is.rfl') (by simp only [go_sem]; exact Is.rfl') (by simp only [go_sem, hesc]; exact Is.rfl') ?_
    repeat (first | refine aops_op' rfl (by simp only [go_sem, g1, g2, hx, recAV, tmAV, hesc]; exact ⟨rfl, rfl⟩) ?_ | refine g_run ?_ | refine g_off ?_ | refine aops_call' rfl (f4) (by simp only [go_sem, g1, g2, hx, recAV, tmAV, hesc]; exact Is.rfl') (by simp only [go_sem, g1, g2, hx, recAV, tmAV, hesc]; exact ⟨rfl, rfl⟩) ?_ | refine aops_nil (d_end ?_) | refine aops_nil ?_ | refine awp_seq ?_ | refine g_text ?_ | refine g_draw Tryd.mixed ?_ | refine awp_block ?_ | refine awp_skip ?_ | (refine awp_exit ?_; simp only [thenA, blockA, ↓reduceIte, Nat.reduceEqDiff, reduceCtorEq]) | refine awp_yes' (by simp only [go_sem, g1, g2, hx, recAV, tmAV, hesc]; exact Is.rfl') ?_ | refine awp_no' (by simp only [go_sem, g1, g2, hx, recAV, tmAV, hesc]; exact Is.rfl') ?_)
    obtain ⟨key, hkey⟩ : ∃ key, timerKey a inst i = key := ⟨_, rfl⟩
    rw [hkey] at hup f4
    refine awp_loopH (D := Nat) (fun k vs => [(1, I inst), (2, .loc 2 (vs 2) 0 0), (5, .row 13 (vs 13)), (6, I i), (7, Sg key), (9, .loc 9 (vs 9) 0 0), (10, .row 44 (vs 44)), (11, B (doneP (key, nm) L k)), (12, I k)]) (fun k _ => [(2, ⟨8, [recAV r], 44, false⟩), (9, ⟨2, [prAV (key, nm)], 72, false⟩), (13, ⟨2, L.map prAV, 72, true⟩), (44, ⟨2, (nextP (key, nm) L k).map prAV, 72, true⟩)]) (fun k _ esc => k ≤ L.length ∧ esc 44 = false ∧ esc 13 = false) (fun k => L.length - k) 0 ?_ ?_ ?_ ?_
    · exact ⟨Nat.zero_le _, by simp only [go_sem], by simp only [go_sem, hesc]⟩
    · (simp only [go_sem, hkey])
      rfl
    · (simp only [go_sem, hkey, prAV, recAV])
      rfl
    clear ws esc hesc
    rintro k ws esc ⟨hkle, he44, he13⟩
    have hnl := nextP_len (x := (key, nm)) hkle
    by_cases hkl : k < L.length
    · have c1 := nlt hkl
      have c2 := wrap_succ hkl (by omega)
      obtain ⟨y, hy⟩ : ∃ y, L[k]? = some y := ⟨L[k], List.getElem?_eq_getElem hkl⟩
      have c3 : Fits ((nextP (key, nm) L k).length + 1) 32 := fits_small (by omega) (by omega)
      cases hd : doneP (key, nm) L k with
      | true =>
        have e1 := map_snoc prAV _ _ _ (next_done hy hd)
        simp only [prAV] at e1
        have e2 : doneP (key, nm) L (k + 1) = true := by rw [doneP_up hy, hd]; rfl
        repeat (first | refine aops_op' rfl (by simp only [go_sem, c1, c2, hy, c3, hd, e1, e2, he44, he13, prAV]; exact ⟨rfl, rfl⟩) ?_ | refine g_run ?_ | refine g_off ?_ | refine aops_nil (d_end ?_) | refine aops_nil ?_ | refine awp_seq ?_ | refine g_text ?_ | refine g_draw Tryd.mixed ?_ | refine awp_block ?_ | refine awp_skip ?_ | (refine awp_exit ?_; simp only [thenA, blockA, ↓reduceIte, Nat.reduceEqDiff, reduceCtorEq]) | refine awp_yes' (by simp only [go_sem, c1, c2, hy, c3, hd, e1, e2, he44, he13, prAV]; exact Is.rfl') ?_ | refine awp_no' (by simp only [go_sem, c1, c2, hy, c3, hd, e1, e2, he44, he13, prAV]; exact Is.rfl') ?_)
        refine ⟨k + 1, ⟨hkl, ?_, ?_⟩, ?_, ?_, ?_⟩
        · simp only [go_sem, he44]
        · simp only [go_sem, he13]
        · (simp only [go_sem, c1, c2, hy, c3, hd, e1, e2, he44, he13, prAV])
        · (simp only [go_sem, c1, c2, hy, c3, hd, e1, e2, he44, he13, prAV])
        · omega
      | false =>
        cases hl : Op.bytesLess key y.1 with
        | true =>
          have t1 : (!(Op.bytesLess y.1 key || y.1 == key)) = true := by rw [← less_turn]; exact hl
          have e1 := map_snoc prAV _ _ _ (next_here hy hd hl)
          rw [List.map_append] at e1
          simp only [prAV, List.map_cons, List.map_nil] at e1
          have e2 : doneP (key, nm) L (k + 1) = true := by rw [doneP_up hy, hd]; exact hl
          have c4 : Fits ((nextP (key, nm) L k).length + 1 + 1) 32 := fits_small (by omega) (by omega)
          repeat (first | refine aops_op' rfl (by simp only [go_sem, c1, c2, hy, c3, c4, hd, t1, e1, e2, he44, he13, prAV]; exact ⟨rfl, rfl⟩) ?_ | refine g_run ?_ | refine g_off ?_ | refine aops_nil (d_end ?_) | refine aops_nil ?_ | refine awp_seq ?_ | refine g_text ?_ | refine g_draw Tryd.mixed ?_ | refine awp_block ?_ | refine awp_skip ?_ | (refine awp_exit ?_; simp only [thenA, blockA, ↓reduceIte, Nat.reduceEqDiff, reduceCtorEq]) | refine awp_yes' (by simp only [go_sem, c1, c2, hy, c3, c4, hd, t1, e1, e2, he44, he13, prAV]; exact Is.rfl') ?_ | refine awp_no' (by simp only [go_sem, c1, c2, hy, c3, c4, hd, t1, e1, e2, he44, he13, prAV]; exact Is.rfl') ?_)
          refine ⟨k + 1, ⟨hkl, ?_, ?_⟩, ?_, ?_, ?_⟩
          · simp only [go_sem, he44]
          · simp only [go_sem, he13]
          · (simp only [go_sem, c1, c2, hy, c3, c4, hd, t1, e1, e2, he44, he13, prAV])
          · (simp only [go_sem, c1, c2, hy, c3, c4, hd, t1, e1, e2, he44, he13, prAV])
          · omega
        | false =>
          have t1 : (!(Op.bytesLess y.1 key || y.1 == key)) = false := by rw [← less_turn]; exact hl
          have e1 := map_snoc prAV _ _ _ (next_not hy hd hl)
          simp only [prAV] at e1
          have e2 : doneP (key, nm) L (k + 1) = false := by rw [doneP_up hy, hd]; exact hl
          repeat (first | refine aops_op' rfl (by simp only [go_sem, c1, c2, hy, c3, hd, t1, e1, e2, he44, he13, prAV]; exact ⟨rfl, rfl⟩) ?_ | refine g_run ?_ | refine g_off ?_ | refine aops_nil (d_end ?_) | refine aops_nil ?_ | refine awp_seq ?_ | refine g_text ?_ | refine g_draw Tryd.mixed ?_ | refine awp_block ?_ | refine awp_skip ?_ | (refine awp_exit ?_; simp only [thenA, blockA, ↓reduceIte, Nat.reduceEqDiff, reduceCtorEq]) | refine awp_yes' (by simp only [go_sem, c1, c2, hy, c3, hd, t1, e1, e2, he44, he13, prAV]; exact Is.rfl') ?_ | refine awp_no' (by simp only [go_sem, c1, c2, hy, c3, hd, t1, e1, e2, he44, he13, prAV]; exact Is.rfl') ?_)
          refine ⟨k + 1, ⟨hkl, ?_, ?_⟩, ?_, ?_, ?_⟩
          · simp only [go_sem, he44]
          · simp only [go_sem, he13]
          · (simp only [go_sem, c1, c2, hy, c3, hd, t1, e1, e2, he44, he13, prAV])
          · (simp only [go_sem, c1, c2, hy, c3, hd, t1, e1, e2, he44, he13, prAV])
          · omega
    · have c1 : ¬ (k : Int) < (L.length : Int) := by omega
      have hkL : k = L.length := by omega
      subst hkL
      have c3 : Fits ((nextP (key, nm) L L.length).length + 1) 32 := fits_small (by omega) (by omega)
      cases hd : doneP (key, nm) L L.length with
      | true =>
        have e1 : nextP (key, nm) L L.length = refP (tkL inst r.timers (i + 1)) := by rw [hup, next_end hd]
        repeat (first | refine aops_op' rfl (by simp only [go_sem, c1, g2, hd, e1, he44, he13, prAV]; exact ⟨rfl, rfl⟩) ?_ | refine g_run ?_ | refine g_off ?_ | refine aops_nil (d_end ?_) | refine aops_nil ?_ | refine awp_seq ?_ | refine g_text ?_ | refine g_draw Tryd.mixed ?_ | refine awp_block ?_ | refine awp_skip ?_ | (refine awp_exit ?_; simp only [thenA, blockA, ↓reduceIte, Nat.reduceEqDiff, reduceCtorEq]) | refine awp_yes' (by simp only [go_sem, c1, g2, hd, e1, he44, he13, prAV]; exact Is.rfl') ?_ | refine awp_no' (by simp only [go_sem, c1, g2, hd, e1, he44, he13, prAV]; exact Is.rfl') ?_)
        refine ⟨i + 1, ⟨hlt, ?_⟩, ?_, ?_, ?_⟩
        · simp only [go_sem, he44]
        · (simp only [go_sem, c1, g2, hd, e1, he44, he13, prAV])
        · (simp only [go_sem, c1, g2, hd, e1, he44, he13, prAV])
        · omega
      | false =>
        have e1 := map_snoc prAV _ (refP (tkL inst r.timers (i + 1))) _ (by rw [hup, ← next_last hd])
        simp only [prAV] at e1
        repeat (first | refine aops_op' rfl (by simp only [go_sem, c1, g2, hd, c3, e1, he44, he13, prAV]; exact ⟨rfl, rfl⟩) ?_ | refine g_run ?_ | refine g_off ?_ | refine aops_nil (d_end ?_) | refine aops_nil ?_ | refine awp_seq ?_ | refine g_text ?_ | refine g_draw Tryd.mixed ?_ | refine awp_block ?_ | refine awp_skip ?_ | (refine awp_exit ?_; simp only [thenA, blockA, ↓reduceIte, Nat.reduceEqDiff, reduceCtorEq]) | refine awp_yes' (by simp only [go_sem, c1, g2, hd, c3, e1, he44, he13, prAV]; exact Is.rfl') ?_ | refine awp_no' (by simp only [go_sem, c1, g2, hd, c3, e1, he44, he13, prAV]; exact Is.rfl') ?_)
        refine ⟨i + 1, ⟨hlt, ?_⟩, ?_, ?_, ?_⟩
        · simp only [go_sem, he44]
        · (simp only [go_sem, c1, g2, hd, c3, e1, he44, he13, prAV])
        · (simp only [go_sem, c1, g2, hd, c3, e1, he44, he13, prAV])
        · omega
  · have g1 : ¬ (i : Int) < (r.timers.length : Int) := by omega
    have hil : i = r.timers.length := by omega
    subst hil
    repeat (first | refine aops_op' rfl (by simp only [go_sem, g1, hesc, recAV]; exact ⟨rfl, rfl⟩) ?_ | refine g_run ?_ | refine g_off ?_ | refine aops_nil (d_end ?_) | refine aops_nil ?_ | refine awp_seq ?_ | refine g_text ?_ | refine g_draw Tryd.mixed ?_ | refine awp_block ?_ | refine awp_skip ?_ | (refine awp_exit ?_; simp only [thenA, blockA, ↓reduceIte, Nat.reduceEqDiff, reduceCtorEq]) | refine awp_yes' (by simp only [go_sem, g1, hesc, recAV]; exact Is.rfl') ?_ | refine awp_no' (by simp only [go_sem, g1, hesc, recAV]; exact Is.rfl') ?_)
    (refine awp_ret ?_; show (resRd _ _ _).run _ = some _; simp only [go_sem, g1, hesc, recAV])
end Go.Proofs.YtbnanjcghhfcpaaDoor
