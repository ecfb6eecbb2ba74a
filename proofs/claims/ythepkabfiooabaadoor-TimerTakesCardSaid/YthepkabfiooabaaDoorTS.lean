/- An agenda filled, and the document's list. -/
import Derived.Test.YthepkabfiooabaaDoorTR
set_option linter.unusedSimpArgs false
namespace Go.Proofs.YthepkabfiooabaaDoor
open Go.RowKit
set_option maxRecDepth 100000
set_option maxHeartbeats 4000000
attribute [local go_sem_proc ↓] reduceIte
attribute [local go_sem_proc] reduceCtorEq Nat.reduceBEq Nat.reduceAdd Nat.reduceSub Nat.reduceEqDiff Nat.reduceLT Nat.reduceLeDiff Nat.reduceMul Int.reduceToNat Int.reduceBEq Int.reduceBNe Int.reduceEq Int.reduceLT Int.reduceLE
attribute [local go_sem] ev_clear ev_makeFunc funcRd evClear List.isEmpty_cons Array.isEmpty_iff ev_makeMap ev_lookup ev_mapUpdate ev_delete evMakeMap evLookup evMapUpdate evDelete pureOf keyCmp mfind oneCells Rd.map AV.bare AV.bare.bareL AV.ofVal resRd resOne resAll HoldF HoldR Takes thenA blockA ev_move ev_assign ev_pick ev_alloc ev_box ev_build ev_buildSlice ev_load ev_store ev_binOp ev_unOp ev_convert ev_iface ev_make ev_slice ev_fieldAddr ev_field ev_indexAddr ev_index ev_extract ev_len ev_append ev_min ev_max evMin evMax gt_tmp gt_int gt_bool gt_str gt_nilS gt_nilP gt_nilI pickRd allocRd buildRd sliceRd loadRd unRd ifaceRd exRd val optRd callRd seen AV.plain adopt fzArgs Rd.run AV.asCells newBox runL Comes' Rd.row Rd.bind Out.app apps Eff.app St.renew St.setRow St.show St.put St.init upd evStore evBinR evBin eqFs eqCell evConv evSeq evLen evIndexAddr evFieldAddr evField evIndex bound evSlice evSliceF evAppend evMake loadOf fillAV fillEs fzParts fz fzCell fzCells shows isConstOp splice wrs wes Value.oneCell' List.getD_cons_zero List.getD_cons_succ List.getD_nil List.length_cons List.length_nil List.map_cons List.map_nil List.nil_append List.cons_append List.all_cons List.all_nil List.getElem?_cons_zero List.getElem?_cons_succ List.set_cons_zero List.set_cons_succ List.take_succ_cons List.take_zero List.drop_succ_cons List.drop_zero List.take_nil List.drop_nil List.replicate_succ List.replicate_zero Bool.and_true Bool.true_and Bool.and_self and_self true_and and_true Nat.zero_add Nat.add_zero Option.some.injEq Nat.zero_lt_succ Bool.not_true Bool.not_false ne_eq not_true_eq_false not_false_eq_true Option.map_some Option.map_none List.toList_toArray head headF headR List.length_map Int.toNat_natCast Int.natCast_nonneg List.getElem?_map decide_true decide_false Bool.false_eq_true if_true if_false Bool.or_self Bool.or_true Bool.true_or Bool.false_or Bool.or_false Bool.and_false Bool.false_and List.flatten_cons List.flatten_nil List.append_nil nat0 or_self or_false false_or or_true true_or and_false false_and List.length_append List.isEmpty_nil bne_self_eq_false beq_self_eq_true fits_small strL_l bytesOf_map wants Int.cast_ofNat_Int gt_iff_lt ge_iff_le
attribute [local go_sem ←] List.map_drop List.map_take
attribute [local go_sem] nilRd ev_nilCheck tmpsAre resI resIs cellRd HoldI toRL toKL gin gout nout vin grownR lay AV.ren AV.ren.renL Row.ren headR Option.bind_some Option.bind_none Option.isSome_some Option.isSome_none Option.getD_some Bool.true_eq_false PreOk PostOk EscOk wrs wes List.cons.injEq Prod.mk.injEq forall_const

theorem Rl.keys {l w : List Due} {M : Mp} (h : Rl l M w) {x y : Due} (hx : x ∈ w) (hy : y ∈ w) (e : keyD x = keyD y) : x = y := by
  obtain ⟨i, hi⟩ := List.mem_iff_getElem?.1 ((h.mem x).2 hx)
  obtain ⟨k, hk⟩ := List.mem_iff_getElem?.1 ((h.mem y).2 hy)
  have := h.ok.c.inj hi hk e
  subst this
  rw [hi] at hk
  cases hk
  rfl
def fillN (ad : Nat → Addr) (l : List Due) : Nat → (List Due × Mp) × List Due
  | 0 => (([], []), [])
  | n + 1 => match l[n]? with
    | some d => ((putA ad (fillN ad l n).1.1 (fillN ad l n).1.2 d).1, (putW (fillN ad l n).2 d).1)
    | none => fillN ad l n
theorem fill_rel (ad : Nat → Addr) (l : List Due) : ∀ n, Rl (fillN ad l n).1.1 (fillN ad l n).1.2 (fillN ad l n).2 ∧ (fillN ad l n).2.length ≤ n ∧ ∀ x ∈ (fillN ad l n).2, x ∈ l ∧ rightD x = true
  | 0 => ⟨.nil, Nat.le_refl _, fun x hx => by simp [fillN] at hx⟩
  | n + 1 => by
    obtain ⟨h1, h2, h3⟩ := fill_rel ad l n
    unfold fillN
    cases hd : l[n]? with
    | none => exact ⟨h1, by simp only; omega, h3⟩
    | some d =>
      refine ⟨(h1.put ad d).1, by have := putW_len (fillN ad l n).2 d; simp only; omega, fun x hx => ?_⟩
      rcases putW_mem hx with ⟨rfl, hr⟩ | h
      · exact ⟨List.mem_of_getElem? hd, hr⟩
      · exact h3 x h
theorem told_ren {ad : Nat → Addr} {r : AV} {is : Bool} {code : Int} (h : Told ad r is code) : ∀ g, r.ren g = r := by
  rcases h with ⟨_, rfl⟩ | ⟨_, rfl⟩ | ⟨_, rfl⟩ <;> intro g <;> rfl
def fillA (ad : Nat → Addr) (l : List Due) : (List Due × Mp) × List Due := fillN ad l (min l.length 100)
theorem filled_con (ad : Nat → Addr) (mo : More) (l : List Due) (hn : ∀ d ∈ l, d.name.length ≤ 9223372036854775807) :
    ConI Tryd.prog (errEnv ad mo) 8 [1000, 1001, 1002] (fun _ => true) (fun _ => [dues l]) (fun _ => []) (fun g => AG g (fillA ad l).1.1 (fillA ad l).1.2) (fun g => .tuple [.loc 1000 (g 1000) 0 0, dues (fillA ad l).2]) := by
  have f0 := tnew_con (errEnv ad mo)
  refine ⟨Tryd.call8, _, _, Tryd.func8, rfl, (by intro _; rw [Tryd.ntmps8]; simp), ?_⟩
  intro vs esc hesc
  rw [Tryd.ntmps8, Tryd.results8]
  have e0 := hesc 1000 (by simp)
  have e1 := hesc 1001 (by simp)
  have e2 := hesc 1002 (by simp)
  repeat (first | refine aops_op' rfl (by simp only [go_sem, e0, e1, e2]; exact ⟨rfl, rfl⟩) ?_ | refine g_run ?_ | refine g_off ?_ | refine aops_nil (d_end ?_) | refine aops_nil ?_ | refine awp_seq ?_ | refine g_text ?_ | refine g_draw Tryd.mixed ?_ | refine awp_block ?_ | refine awp_skip ?_ | (refine awp_exit ?_; simp only [thenA, blockA, ↓reduceIte, Nat.reduceEqDiff, reduceCtorEq]) | refine awp_yes' (by simp only [go_sem, e0, e1, e2]; exact Is.rfl') ?_ | refine awp_no' (by simp only [go_sem, e0, e1, e2]; exact Is.rfl') ?_)
  refine aops_inl [(3, 1000), (1001, 1001), (1, 1002)] rfl (f0) (by decide) (by decide) (by simp only [go_sem, e0, e1, e2] <;> rfl) (by simp only [go_sem, e0, e1, e2, and_self] <;> trivial) (by simp only [go_sem, e0, e1, e2, and_self] <;> trivial) (by intro o; simp only [go_sem, e0, e1, e2, behind, and_self] <;> trivial) (by intro o; simp only [go_sem, e0, e1, e2] <;> rfl) (by simp only [go_sem, e0, e1, e2, behind]; exact Is.rfl') (by simp only [go_sem, e0, e1, e2, behind]; exact Is.rfl') ?_
  repeat (first | refine aops_op' rfl (by simp only [go_sem, e0, e1, e2]; exact ⟨rfl, rfl⟩) ?_ | refine g_run ?_ | refine g_off ?_ | refine aops_nil (d_end ?_) | refine aops_nil ?_ | refine awp_seq ?_ | refine g_text ?_ | refine g_draw Tryd.mixed ?_ | refine awp_block ?_ | refine awp_skip ?_ | (refine awp_exit ?_; simp only [thenA, blockA, ↓reduceIte, Nat.reduceEqDiff, reduceCtorEq]) | refine awp_yes' (by simp only [go_sem, e0, e1, e2]; exact Is.rfl') ?_ | refine awp_no' (by simp only [go_sem, e0, e1, e2]; exact Is.rfl') ?_)
  refine awp_frozen 8 5 ⟨3, [], 32, true⟩ rfl (Nat.succ_ne_zero 2) (by simp only [go_sem]; exact Is.rfl') (by simp only [go_sem]; exact Is.rfl') (by simp only [go_sem]; exact Is.rfl') ?_
  refine awp_loopH (D := Nat) (fun n vs' => [(0, dues l), (4, .loc 1000 (vs' 1000) 0 0), (5, dues (fillN ad l n).2), (6, I n)]) (fun n vs' => AG vs' (fillN ad l n).1.1 (fillN ad l n).1.2) (fun n vs' esc' => (n ≤ l.length ∧ n ≤ 100) ∧ esc' 1000 = false ∧ esc' 1001 = false ∧ esc' 1002 = false) (fun n => l.length - n) 0 ?_ ?_ ?_ ?_
  · exact ⟨⟨Nat.zero_le _, Nat.zero_le _⟩, by simp only [go_sem, e0], by simp only [go_sem, e1], by simp only [go_sem, e2]⟩
  · (simp only [go_sem, e0, e1, e2])
    rfl
  · (simp only [go_sem, AG])
    exact ⟨rfl, rfl⟩
  clear e0 e1 e2
  rintro n ws es ⟨⟨hl, h100⟩, e0, e1, e2⟩
  obtain ⟨hR, hlen, hmem⟩ := fill_rel ad l n
  by_cases hlt : n < l.length
  · obtain ⟨d, hd⟩ : ∃ x, l[n]? = some x := ⟨l[n], List.getElem?_eq_getElem hlt⟩
    have g1 := nlt hlt
    by_cases h1 : n < 100
    · have g2 := wrap_succ h1 (by omega)
      have g3 : (n : Int) < 100 := by omega
      have hq : fillN ad l (n + 1) = ((putA ad (fillN ad l n).1.1 (fillN ad l n).1.2 d).1, (putW (fillN ad l n).2 d).1) := by rw [fillN, hd]
      have f1 := tput_con ad mo d (fillN ad l n).1.1 (fillN ad l n).1.2 hR.ok (hn d (List.mem_of_getElem? hd)) (by rw [hR.len]; omega)
      have f2 := rput_con (errEnv ad mo) (fillN ad l n).2 d (by omega)
      have hren := told_ren (hR.put ad d).2
      generalize putA ad (fillN ad l n).1.1 (fillN ad l n).1.2 d = p at *
      generalize putW (fillN ad l n).2 d = q at *
      repeat (first | refine aops_op' rfl (by simp only [go_sem, AG, e0, e1, e2, g1, g2, g3, hd, hren]; exact ⟨rfl, rfl⟩) ?_ | refine g_run ?_ | refine g_off ?_ | refine aops_call' rfl (f2) (by simp only [go_sem, AG, e0, e1, e2, g1, g2, g3, hd, hren]; exact Is.rfl') (by simp only [go_sem, AG, e0, e1, e2, g1, g2, g3, hd, hren]; exact ⟨rfl, rfl⟩) ?_ | refine aops_nil (d_end ?_) | refine aops_nil ?_ | refine awp_seq ?_ | refine g_text ?_ | refine g_draw Tryd.mixed ?_ | refine awp_block ?_ | refine awp_skip ?_ | (refine awp_exit ?_; simp only [thenA, blockA, ↓reduceIte, Nat.reduceEqDiff, reduceCtorEq]) | refine awp_yes' (by simp only [go_sem, AG, e0, e1, e2, g1, g2, g3, hd, hren]; exact Is.rfl') ?_ | refine awp_no' (by simp only [go_sem, AG, e0, e1, e2, g1, g2, g3, hd, hren]; exact Is.rfl') ?_)
      refine aops_inl [(1000, 1000), (1001, 1001), (1002, 1002)] rfl (f1) (by decide) (by decide) (by simp only [go_sem, AG, e0, e1, e2, g1, g2, g3, hd, hren] <;> rfl) (by simp only [go_sem, AG, e0, e1, e2, g1, g2, g3, hd, hren, and_self] <;> trivial) (by simp only [go_sem, AG, e0, e1, e2, g1, g2, g3, hd, hren, and_self] <;> trivial) (by intro o; simp only [go_sem, AG, e0, e1, e2, g1, g2, g3, hd, hren, behind, and_self] <;> trivial) (by intro o; simp only [go_sem, AG, e0, e1, e2, g1, g2, g3, hd, hren] <;> rfl) (by simp only [go_sem, AG, e0, e1, e2, g1, g2, g3, hd, hren, behind]; exact Is.rfl') (by simp only [go_sem, AG, e0, e1, e2, g1, g2, g3, hd, hren, behind]; exact Is.rfl') ?_
      repeat (first | refine aops_op' rfl (by simp only [go_sem, AG, e0, e1, e2, g1, g2, g3, hd, hren]; exact ⟨rfl, rfl⟩) ?_ | refine g_run ?_ | refine g_off ?_ | refine aops_call' rfl (f2) (by simp only [go_sem, AG, e0, e1, e2, g1, g2, g3, hd, hren]; exact Is.rfl') (by simp only [go_sem, AG, e0, e1, e2, g1, g2, g3, hd, hren]; exact ⟨rfl, rfl⟩) ?_ | refine aops_nil (d_end ?_) | refine aops_nil ?_ | refine awp_seq ?_ | refine g_text ?_ | refine g_draw Tryd.mixed ?_ | refine awp_block ?_ | refine awp_skip ?_ | (refine awp_exit ?_; simp only [thenA, blockA, ↓reduceIte, Nat.reduceEqDiff, reduceCtorEq]) | refine awp_yes' (by simp only [go_sem, AG, e0, e1, e2, g1, g2, g3, hd, hren]; exact Is.rfl') ?_ | refine awp_no' (by simp only [go_sem, AG, e0, e1, e2, g1, g2, g3, hd, hren]; exact Is.rfl') ?_)
      refine ⟨n + 1, ⟨⟨hlt, h1⟩, ?_, ?_, ?_⟩, ?_, ?_, ?_⟩
      · simp only [go_sem, e0]
      · simp only [go_sem, e1]
      · simp only [go_sem, e2]
      · rw [hq]; (simp only [go_sem, AG, e0, e1, e2, g1, g2, g3, hd, hren])
      · rw [hq]; (simp only [go_sem, AG, e0, e1, e2, g1, g2, g3, hd, hren])
      · omega
    · have g3 : ¬ (n : Int) < 100 := by omega
      have hf : fillA ad l = fillN ad l n := by unfold fillA; congr 1; omega
      rw [hf]
      repeat (first | refine aops_op' rfl (by simp only [go_sem, AG, e0, e1, e2, g1, g3]; exact ⟨rfl, rfl⟩) ?_ | refine g_run ?_ | refine g_off ?_ | refine aops_nil (d_end ?_) | refine aops_nil ?_ | refine awp_seq ?_ | refine g_text ?_ | refine g_draw Tryd.mixed ?_ | refine awp_block ?_ | refine awp_skip ?_ | (refine awp_exit ?_; simp only [thenA, blockA, ↓reduceIte, Nat.reduceEqDiff, reduceCtorEq]) | refine awp_yes' (by simp only [go_sem, AG, e0, e1, e2, g1, g3]; exact Is.rfl') ?_ | refine awp_no' (by simp only [go_sem, AG, e0, e1, e2, g1, g3]; exact Is.rfl') ?_)
      (refine awp_ret ?_; (try simp only [thenA, blockA, ↓reduceIte, Nat.reduceEqDiff, reduceCtorEq]); refine retI_of ?_ ?_ <;> simp only [go_sem, AG, e0, e1, e2, g1, g3, implies_true, and_self, imp_self, false_implies, AV.tuple.injEq, exists_eq_left', ne_eq])
  · have g1 : ¬ (n : Int) < (l.length : Int) := by omega
    have hf : fillA ad l = fillN ad l n := by unfold fillA; congr 1; omega
    rw [hf]
    repeat (first | refine aops_op' rfl (by simp only [go_sem, AG, e0, e1, e2, g1]; exact ⟨rfl, rfl⟩) ?_ | refine g_run ?_ | refine g_off ?_ | refine aops_nil (d_end ?_) | refine aops_nil ?_ | refine awp_seq ?_ | refine g_text ?_ | refine g_draw Tryd.mixed ?_ | refine awp_block ?_ | refine awp_skip ?_ | (refine awp_exit ?_; simp only [thenA, blockA, ↓reduceIte, Nat.reduceEqDiff, reduceCtorEq]) | refine awp_yes' (by simp only [go_sem, AG, e0, e1, e2, g1]; exact Is.rfl') ?_ | refine awp_no' (by simp only [go_sem, AG, e0, e1, e2, g1]; exact Is.rfl') ?_)
    (refine awp_ret ?_; (try simp only [thenA, blockA, ↓reduceIte, Nat.reduceEqDiff, reduceCtorEq]); refine retI_of ?_ ?_ <;> simp only [go_sem, AG, e0, e1, e2, g1, implies_true, and_self, imp_self, false_implies, AV.tuple.injEq, exists_eq_left', ne_eq])
end Go.Proofs.YthepkabfiooabaaDoor
