/- An agenda as rows: DropAll; how an agenda stands to the document's list: Drop, DropAll, Take. -/
import Derived.Test.YthepkabfiooabaaDoorTS
import Derived.Test.YthepkabfiooabaaDoorTW
set_option linter.unusedSimpArgs false
namespace Go.Proofs.YthepkabfiooabaaDoor
open Go.RowKit
set_option maxRecDepth 100000
set_option maxHeartbeats 4000000
attribute [local go_sem_proc ↓] reduceIte
attribute [local go_sem_proc] reduceCtorEq Nat.reduceBEq Nat.reduceAdd Nat.reduceSub Nat.reduceEqDiff Nat.reduceLT Nat.reduceLeDiff Nat.reduceMul Int.reduceToNat Int.reduceBEq Int.reduceBNe Int.reduceEq Int.reduceLT Int.reduceLE
attribute [local go_sem] ev_clear ev_makeFunc funcRd evClear List.isEmpty_cons Array.isEmpty_iff ev_makeMap ev_lookup ev_mapUpdate ev_delete evMakeMap evLookup evMapUpdate evDelete pureOf keyCmp mfind oneCells Rd.map AV.bare AV.bare.bareL AV.ofVal resRd resOne resAll HoldF HoldR Takes thenA blockA ev_move ev_assign ev_pick ev_alloc ev_box ev_build ev_buildSlice ev_load ev_store ev_binOp ev_unOp ev_convert ev_iface ev_make ev_slice ev_fieldAddr ev_field ev_indexAddr ev_index ev_extract ev_len ev_append ev_min ev_max evMin evMax gt_tmp gt_int gt_bool gt_str gt_nilS gt_nilP gt_nilI pickRd allocRd buildRd sliceRd loadRd unRd ifaceRd exRd val optRd callRd seen AV.plain adopt fzArgs Rd.run AV.asCells newBox runL Comes' Rd.row Rd.bind Out.app apps Eff.app St.renew St.setRow St.show St.put St.init upd evStore evBinR evBin eqFs eqCell evConv evSeq evLen evIndexAddr evFieldAddr evField evIndex bound evSlice evSliceF evAppend evMake loadOf fillAV fillEs fzParts fz fzCell fzCells shows isConstOp splice wrs wes Value.oneCell' List.getD_cons_zero List.getD_cons_succ List.getD_nil List.length_cons List.length_nil List.map_cons List.map_nil List.nil_append List.cons_append List.all_cons List.all_nil List.getElem?_cons_zero List.getElem?_cons_succ List.set_cons_zero List.set_cons_succ List.take_succ_cons List.take_zero List.drop_succ_cons List.drop_zero List.take_nil List.drop_nil List.replicate_succ List.replicate_zero Bool.and_true Bool.true_and Bool.and_self and_self true_and and_true Nat.zero_add Nat.add_zero Option.some.injEq Nat.zero_lt_succ Bool.not_true Bool.not_false ne_eq not_true_eq_false not_false_eq_true Option.map_some Option.map_none List.toList_toArray head headF headR List.length_map Int.toNat_natCast Int.natCast_nonneg List.getElem?_map decide_true decide_false Bool.false_eq_true if_true if_false Bool.or_self Bool.or_true Bool.true_or Bool.false_or Bool.or_false Bool.and_false Bool.false_and List.flatten_cons List.flatten_nil List.append_nil nat0 or_self or_false false_or or_true true_or and_false false_and List.length_append List.isEmpty_nil bne_self_eq_false beq_self_eq_true fits_small strL_l bytesOf_map wants Int.cast_ofNat_Int gt_iff_lt ge_iff_le
attribute [local go_sem ←] List.map_drop List.map_take
attribute [local go_sem] nilRd ev_nilCheck tmpsAre resI resIs cellRd HoldI toRL toKL gin gout nout vin grownR lay AV.ren AV.ren.renL Row.ren headR Option.bind_some Option.bind_none Option.isSome_some Option.isSome_none Option.getD_some Bool.true_eq_false PreOk PostOk EscOk wrs wes List.cons.injEq Prod.mk.injEq forall_const

/-- An agenda without an instance's dues, one by one in order. -/
def daN (sd : List Due) (inst : Int) (l : List Due) (M : Mp) : Nat → List Due × Mp
  | 0 => (l, M)
  | n + 1 => match sd[n]? with
    | some d => if d.inst = inst then (match lookM (keyD d) (daN sd inst l M n).2 with
      | some i => pullR (daN sd inst l M n).1 (daN sd inst l M n).2 i.toNat
      | none => daN sd inst l M n) else daN sd inst l M n
    | none => daN sd inst l M n
def goneN (sd : List Due) (inst : Int) (n : Nat) : List Due := (sd.take n).filter fun d => d.inst == inst
theorem gone_next {sd : List Due} {inst : Int} {n : Nat} {d : Due} (hd : sd[n]? = some d) : goneN sd inst (n + 1) = goneN sd inst n ++ if d.inst = inst then [d] else [] := by
  unfold goneN
  rw [take_next hd, List.filter_append]
  congr 1
  simp only [List.filter_cons, List.filter_nil, beq_iff_eq]
theorem gone_no {sd : List Due} (hnd : sd.Nodup) (inst : Int) {n : Nat} {d : Due} (hd : sd[n]? = some d) : d ∉ goneN sd inst n := fun hh => by
  obtain ⟨k, hk, e⟩ := List.mem_iff_getElem.1 (List.mem_filter.1 hh).1
  have hkn : k < n := by rw [List.length_take] at hk; omega
  rw [List.getElem_take] at e
  obtain ⟨hn1, hn2⟩ := List.getElem?_eq_some_iff.1 hd
  have := (List.getElem_inj hnd (h₀ := by rw [List.length_take] at hk; omega) (h₁ := hn1)).1 (e.trans hn2.symm)
  omega
theorem filter_two {α : Type} (p : α → Bool) : ∀ l : List α, (l.filter p).length + (l.filter fun x => !p x).length = l.length
  | [] => rfl
  | x :: l => by
    have := filter_two p l
    simp only [List.filter_cons]
    cases p x <;> simp <;> omega
theorem daN_spec {sd l : List Due} {M : Mp} (inst : Int) (h : AgOk l M) (hnd : sd.Nodup) (hm : ∀ x, x ∈ sd ↔ x ∈ l) : ∀ n, AgOk (daN sd inst l M n).1 (daN sd inst l M n).2 ∧ (∀ x, x ∈ (daN sd inst l M n).1 ↔ x ∈ l ∧ x ∉ goneN sd inst n) ∧ (daN sd inst l M n).1.length ≤ l.length
  | 0 => ⟨h, fun x => by simp [daN, goneN], Nat.le_refl _⟩
  | n + 1 => by
    obtain ⟨h1, h2, h3⟩ := daN_spec inst h hnd hm n
    unfold daN
    cases hd : sd[n]? with
    | none =>
      have : goneN sd inst (n + 1) = goneN sd inst n := by
        unfold goneN
        have hl := List.getElem?_eq_none_iff.1 hd
        rw [List.take_of_length_le (by omega), List.take_of_length_le (by omega)]
      exact ⟨h1, fun x => by rw [this]; exact h2 x, h3⟩
    | some d =>
      have hg := gone_next (inst := inst) hd
      by_cases hi : d.inst = inst
      · simp only [if_pos hi] at hg ⊢
        have hdl : d ∈ l := (hm d).1 (List.mem_of_getElem? hd)
        have hdn : d ∉ goneN sd inst n := gone_no hnd inst hd
        have hd' := (h2 d).2 ⟨hdl, hdn⟩
        obtain ⟨i, hi'⟩ := List.mem_iff_getElem?.1 hd'
        rw [h1.c.find hi']
        simp only [Int.toNat_natCast]
        obtain ⟨q1, q2, q3⟩ := pull_spec h1 hi'
        refine ⟨q1, fun x => ?_, by omega⟩
        rw [q2, h2, hg, List.mem_append, List.mem_singleton, not_or]
        constructor
        · rintro ⟨⟨a, b⟩, c⟩
          exact ⟨a, b, fun e => c (by rw [e])⟩
        · rintro ⟨a, b, c⟩
          refine ⟨⟨a, b⟩, fun e => c ?_⟩
          obtain ⟨k, hk⟩ := List.mem_iff_getElem?.1 ((h2 x).2 ⟨a, b⟩)
          have := h1.c.inj hk hi' e
          subst this
          rw [hk] at hi'
          cases hi'
          rfl
      · simp only [if_neg hi] at hg ⊢
        exact ⟨h1, fun x => by rw [hg, List.append_nil]; exact h2 x, h3⟩
theorem tdropall_con (env : Env) (inst : Int) (l : List Due) (M : Mp) (h : AgOk l M) (hl : l.length ≤ 4096) (hnd : (sortD l).Nodup) (hm : ∀ x, x ∈ sortD l ↔ x ∈ l) :
    ConI Tryd.prog env 24 [1000, 1001, 1002, 9] (fun k => k == 1001 || k == 9) (fun g => [.loc 1000 (g 1000) 0 0, I inst]) (fun g => AG g l M) (fun g => AG g (daN (sortD l) inst l M (sortD l).length).1 (daN (sortD l) inst l M (sortD l).length).2 ++ [(9, ⟨3, (sortD l).map dueC, 32, true⟩)]) (fun _ => I (goneN (sortD l) inst (sortD l).length).length) := by
  have f1 := tall_con env l M hl
  have hsp := daN_spec inst h hnd hm
  have hsl : (sortD l).length = l.length := by rw [sortD, List.length_mergeSort]
  generalize sortD l = sd at *
  refine ⟨Tryd.call24, _, _, Tryd.func24, rfl, (by intro _; rw [Tryd.ntmps24]; simp), ?_⟩
  intro vs esc hesc
  rw [Tryd.ntmps24, Tryd.results24]
  have e0 := hesc 1000 (by simp)
  have e1 := hesc 1001 (by simp)
  have e2 := hesc 1002 (by simp)
  have e3 := hesc 9 (by simp)
  repeat (first | refine aops_op' rfl (by simp only [go_sem, AG, e0, e1, e2, e3]; exact ⟨rfl, rfl⟩) ?_ | refine g_run ?_ | refine g_off ?_ | refine aops_nil (d_end ?_) | refine aops_nil ?_ | refine awp_seq ?_ | refine g_text ?_ | refine g_draw Tryd.mixed ?_ | refine awp_block ?_ | refine awp_skip ?_ | (refine awp_exit ?_; simp only [thenA, blockA, ↓reduceIte, Nat.reduceEqDiff, reduceCtorEq]) | refine awp_yes' (by simp only [go_sem, AG, e0, e1, e2, e3]; exact Is.rfl') ?_ | refine awp_no' (by simp only [go_sem, AG, e0, e1, e2, e3]; exact Is.rfl') ?_)
  refine aops_inl [(1000, 1000), (1001, 1001), (1002, 1002), (9, 9)] rfl (f1) (by decide) (by decide) (by simp only [go_sem, AG, e0, e1, e2, e3] <;> rfl) (by simp only [go_sem, AG, e0, e1, e2, e3, and_self] <;> trivial) (by simp only [go_sem, AG, e0, e1, e2, e3, and_self] <;> trivial) (by intro o; simp only [go_sem, AG, e0, e1, e2, e3, behind, and_self] <;> trivial) (by intro o; simp only [go_sem, AG, e0, e1, e2, e3] <;> rfl) (by simp only [go_sem, AG, e0, e1, e2, e3, behind]; exact Is.rfl') (by simp only [go_sem, AG, e0, e1, e2, e3, behind]; exact Is.rfl') ?_
  repeat (first | refine aops_op' rfl (by simp only [go_sem, AG, e0, e1, e2, e3]; exact ⟨rfl, rfl⟩) ?_ | refine g_run ?_ | refine g_off ?_ | refine aops_nil (d_end ?_) | refine aops_nil ?_ | refine awp_seq ?_ | refine g_text ?_ | refine g_draw Tryd.mixed ?_ | refine awp_block ?_ | refine awp_skip ?_ | (refine awp_exit ?_; simp only [thenA, blockA, ↓reduceIte, Nat.reduceEqDiff, reduceCtorEq]) | refine awp_yes' (by simp only [go_sem, AG, e0, e1, e2, e3]; exact Is.rfl') ?_ | refine awp_no' (by simp only [go_sem, AG, e0, e1, e2, e3]; exact Is.rfl') ?_)
  refine awp_loopH (D := Nat) (fun n vs' => [(0, .loc 1000 (vs' 1000) 0 0), (1, I inst), (5, I ((goneN sd inst n).length : Int)), (9, .row 9 (vs' 9)), (10, I sd.length), (11, I (n : Int))]) (fun n vs' => AG vs' (daN sd inst l M n).1 (daN sd inst l M n).2 ++ [(9, ⟨3, sd.map dueC, 32, true⟩)]) (fun n vs' esc' => n ≤ sd.length ∧ vs' 1000 = vs 1000 ∧ vs' 1002 = vs 1002 ∧ esc' 1000 = false ∧ esc' 1001 = false ∧ esc' 1002 = false ∧ esc' 9 = false) (fun n => sd.length - n) 0 ?_ ?_ ?_ ?_
  · exact ⟨Nat.zero_le _, by simp only [go_sem], by simp only [go_sem], by simp only [go_sem, e0], by simp only [go_sem, e1], by simp only [go_sem, e2], by simp only [go_sem, e3]⟩
  · have : (goneN sd inst 0).length = 0 := by simp [goneN]
    simp only [this]
    (simp only [go_sem, AG, e0, e1, e2, e3])
  · (simp only [go_sem, AG, daN])
  clear e0 e1 e2 e3
  rintro n ws es ⟨hn, v0, v2, e0, e1, e2, e3⟩
  obtain ⟨hok, hmem, hlen⟩ := hsp n
  by_cases hlt : n < sd.length
  · obtain ⟨d, hd⟩ : ∃ x, sd[n]? = some x := ⟨sd[n], List.getElem?_eq_getElem hlt⟩
    have g1 := nlt hlt
    have g2 := wrap_succ hlt (by omega)
    have hg := gone_next (inst := inst) hd
    by_cases hi : d.inst = inst
    · have h0 : (d.inst == inst) = true := by simp [hi]
      simp only [if_pos hi] at hg
      have hdl : d ∈ (daN sd inst l M n).1 := (hmem d).2 ⟨(hm d).1 (List.mem_of_getElem? hd), gone_no hnd inst hd⟩
      obtain ⟨i, hi'⟩ := List.mem_iff_getElem?.1 hdl
      have hfi := hok.c.find hi'
      have hq : daN sd inst l M (n + 1) = pullR (daN sd inst l M n).1 (daN sd inst l M n).2 i := by
        conv => lhs; unfold daN
        rw [hd]
        simp only [if_pos hi, hfi, Int.toNat_natCast]
      obtain ⟨q, q1, q2⟩ := look_some hfi
      have h1 := mfind_M (d.inst, d.name) (daN sd inst l M n).2 0
      rw [show idxM (d.inst, d.name) (daN sd inst l M n).2 0 = some q from q1] at h1
      simp only at h1
      have f2 := tkey_con env d
      have f3 := pull_con env i (daN sd inst l M n).1 (daN sd inst l M n).2 d hok hi' (by omega)
      have hgle : (goneN sd inst n).length < sd.length + 1 := by
        have : (goneN sd inst n).length ≤ sd.length := filter_len _ _ _
        omega
      have g3 : IntKind.i64.wrap (((goneN sd inst n).length : Int) + 1) = (((goneN sd inst n).length + 1 : Nat) : Int) := wrap_succ hgle (by omega)
      have hgl : (goneN sd inst (n + 1)).length = (goneN sd inst n).length + 1 := by rw [hg]; simp
      simp only [keyD] at q2
      generalize hu : pullR (daN sd inst l M n).1 (daN sd inst l M n).2 i = u at *
      generalize daN sd inst l M n = c at *
      repeat (first | refine aops_op' rfl (by simp only [go_sem, AG, dueC, keyC, encM, hd, e0, e1, e2, e3, g1, g2, g3, h0, h1, q2]; exact ⟨rfl, rfl⟩) ?_ | refine g_run ?_ | refine g_off ?_ | refine aops_call' rfl (f2) (by simp only [go_sem, AG, dueC, keyC, encM, hd, e0, e1, e2, e3, g1, g2, g3, h0, h1, q2]; exact Is.rfl') (by simp only [go_sem, AG, dueC, keyC, encM, hd, e0, e1, e2, e3, g1, g2, g3, h0, h1, q2]; exact ⟨rfl, rfl⟩) ?_ | refine aops_nil (d_end ?_) | refine aops_nil ?_ | refine awp_seq ?_ | refine g_text ?_ | refine g_draw Tryd.mixed ?_ | refine awp_block ?_ | refine awp_skip ?_ | (refine awp_exit ?_; simp only [thenA, blockA, ↓reduceIte, Nat.reduceEqDiff, reduceCtorEq]) | refine awp_yes' (by simp only [go_sem, AG, dueC, keyC, encM, hd, e0, e1, e2, e3, g1, g2, g3, h0, h1, q2]; exact Is.rfl') ?_ | refine awp_no' (by simp only [go_sem, AG, dueC, keyC, encM, hd, e0, e1, e2, e3, g1, g2, g3, h0, h1, q2]; exact Is.rfl') ?_)
      refine aops_inl [(1000, 1000), (1001, 1001), (1002, 1002)] rfl (f3) (by decide) (by decide) (by simp only [go_sem, AG, dueC, keyC, encM, hd, e0, e1, e2, e3, g1, g2, g3, h0, h1, q2] <;> rfl) (by simp only [go_sem, AG, dueC, keyC, encM, hd, e0, e1, e2, e3, g1, g2, g3, h0, h1, q2, and_self] <;> trivial) (by simp only [go_sem, AG, dueC, keyC, encM, hd, e0, e1, e2, e3, g1, g2, g3, h0, h1, q2, and_self] <;> trivial) (by intro o; simp only [go_sem, AG, dueC, keyC, encM, hd, e0, e1, e2, e3, g1, g2, g3, h0, h1, q2, behind, and_self] <;> trivial) (by intro o; simp only [go_sem, AG, dueC, keyC, encM, hd, e0, e1, e2, e3, g1, g2, g3, h0, h1, q2] <;> rfl) (by simp only [go_sem, AG, dueC, keyC, encM, hd, e0, e1, e2, e3, g1, g2, g3, h0, h1, q2, behind]; exact Is.rfl') (by simp only [go_sem, AG, dueC, keyC, encM, hd, e0, e1, e2, e3, g1, g2, g3, h0, h1, q2, behind]; exact Is.rfl') ?_
      repeat (first | refine aops_op' rfl (by simp only [go_sem, AG, dueC, keyC, encM, hd, e0, e1, e2, e3, g1, g2, g3, h0, h1, q2]; exact ⟨rfl, rfl⟩) ?_ | refine g_run ?_ | refine g_off ?_ | refine aops_nil (d_end ?_) | refine aops_nil ?_ | refine awp_seq ?_ | refine g_text ?_ | refine g_draw Tryd.mixed ?_ | refine awp_block ?_ | refine awp_skip ?_ | (refine awp_exit ?_; simp only [thenA, blockA, ↓reduceIte, Nat.reduceEqDiff, reduceCtorEq]) | refine awp_yes' (by simp only [go_sem, AG, dueC, keyC, encM, hd, e0, e1, e2, e3, g1, g2, g3, h0, h1, q2]; exact Is.rfl') ?_ | refine awp_no' (by simp only [go_sem, AG, dueC, keyC, encM, hd, e0, e1, e2, e3, g1, g2, g3, h0, h1, q2]; exact Is.rfl') ?_)
      refine ⟨n + 1, ⟨hlt, ?_, ?_, ?_, ?_, ?_, ?_⟩, ?_, ?_, ?_⟩
      · simp only [go_sem, v0]
      · simp only [go_sem, v2]
      · simp only [go_sem, e0]
      · simp only [go_sem, e1]
      · simp only [go_sem, e2]
      · simp only [go_sem, e3]
      · simp only [hgl]
        (simp only [go_sem, AG, dueC, keyC, encM, hd, e0, e1, e2, e3, g1, g2, g3, h0, h1, q2])
      · rw [hq]; (simp only [go_sem, AG, dueC, keyC, encM, hd, e0, e1, e2, e3, g1, g2, g3, h0, h1, q2])
      · omega
    · have h0 : (d.inst == inst) = false := by simp [hi]
      simp only [if_neg hi, List.append_nil] at hg
      have hq : daN sd inst l M (n + 1) = daN sd inst l M n := by
        conv => lhs; unfold daN
        rw [hd]
        simp only [if_neg hi]
      generalize hcc : daN sd inst l M n = c at *
      repeat (first | refine aops_op' rfl (by simp only [go_sem, AG, dueC, hd, e0, e1, e2, e3, g1, g2, h0]; exact ⟨rfl, rfl⟩) ?_ | refine g_run ?_ | refine g_off ?_ | refine aops_nil (d_end ?_) | refine aops_nil ?_ | refine awp_seq ?_ | refine g_text ?_ | refine g_draw Tryd.mixed ?_ | refine awp_block ?_ | refine awp_skip ?_ | (refine awp_exit ?_; simp only [thenA, blockA, ↓reduceIte, Nat.reduceEqDiff, reduceCtorEq]) | refine awp_yes' (by simp only [go_sem, AG, dueC, hd, e0, e1, e2, e3, g1, g2, h0]; exact Is.rfl') ?_ | refine awp_no' (by simp only [go_sem, AG, dueC, hd, e0, e1, e2, e3, g1, g2, h0]; exact Is.rfl') ?_)
      refine ⟨n + 1, ⟨hlt, ?_, ?_, ?_, ?_, ?_, ?_⟩, ?_, ?_, ?_⟩
      · simp only [go_sem, v0]
      · simp only [go_sem, v2]
      · simp only [go_sem, e0]
      · simp only [go_sem, e1]
      · simp only [go_sem, e2]
      · simp only [go_sem, e3]
      · simp only [hg]
        (simp only [go_sem, AG, dueC, hd, e0, e1, e2, e3, g1, g2, h0])
      · rw [hq]; (simp only [go_sem, AG, dueC, hd, e0, e1, e2, e3, g1, g2, h0])
      · omega
  · have g1 : ¬ (n : Int) < (sd.length : Int) := by omega
    have hns : n = sd.length := by omega
    subst hns
    generalize daN sd inst l M sd.length = c at *
    generalize goneN sd inst sd.length = gn at *
    repeat (first | refine aops_op' rfl (by simp only [go_sem, AG, e0, e1, e2, e3, g1, v0, v2]; exact ⟨rfl, rfl⟩) ?_ | refine g_run ?_ | refine g_off ?_ | refine aops_nil (d_end ?_) | refine aops_nil ?_ | refine awp_seq ?_ | refine g_text ?_ | refine g_draw Tryd.mixed ?_ | refine awp_block ?_ | refine awp_skip ?_ | (refine awp_exit ?_; simp only [thenA, blockA, ↓reduceIte, Nat.reduceEqDiff, reduceCtorEq]) | refine awp_yes' (by simp only [go_sem, AG, e0, e1, e2, e3, g1, v0, v2]; exact Is.rfl') ?_ | refine awp_no' (by simp only [go_sem, AG, e0, e1, e2, e3, g1, v0, v2]; exact Is.rfl') ?_)
    (refine awp_ret ?_; (try simp only [thenA, blockA, ↓reduceIte, Nat.reduceEqDiff, reduceCtorEq]); refine retI_of ?_ ?_ <;> simp only [go_sem, AG, e0, e1, e2, e3, g1, v0, v2, implies_true, and_self, imp_self, false_implies, AV.tuple.injEq, exists_eq_left', ne_eq])

/-! The document's list -/
theorem Rl.sortNd {l w : List Due} {M : Mp} (h : Rl l M w) : (sortD l).Nodup ∧ ∀ x, x ∈ sortD l ↔ x ∈ l := by
  rw [h.sort]
  exact ⟨h.so.nodup, fun x => (h.mem x).symm⟩
theorem Rl.dropAll {l w : List Due} {M : Mp} (h : Rl l M w) (inst : Int) : Rl (daN w inst l M w.length).1 (daN w inst l M w.length).2 (dropAllW w inst) ∧ ((goneN w inst w.length).length : Int) = (w.length : Int) - ((dropAllW w inst).length : Int) := by
  obtain ⟨q1, q2, _⟩ := daN_spec inst h.ok h.so.nodup (fun x => (h.mem x).symm) w.length
  have hg : goneN w inst w.length = w.filter fun d => d.inst == inst := by unfold goneN; rw [List.take_length]
  refine ⟨⟨q1, List.Pairwise.filter _ h.so, fun x => ?_⟩, ?_⟩
  · rw [q2, hg, h.mem]
    unfold dropAllW
    simp only [List.mem_filter, beq_iff_eq, bne_iff_ne, not_and]
    constructor
    · rintro ⟨a, b⟩; exact ⟨a, b a⟩
    · rintro ⟨a, b⟩; exact ⟨a, fun _ => b⟩
  · rw [hg]
    unfold dropAllW
    have := filter_two (fun d : Due => d.inst == inst) w
    have e : (w.filter fun d : Due => !(d.inst == inst)) = w.filter fun d => d.inst != inst := rfl
    rw [e] at this
    omega
theorem Rl.drop {l w : List Due} {M : Mp} (ad : Nat → Addr) (h : Rl l M w) (k : Wh) :
    ((dropW w k).length < w.length → Rl (dropA ad l M k).1.1 (dropA ad l M k).1.2 (dropW w k) ∧ (dropA ad l M k).2 = nilE) ∧ (¬ (dropW w k).length < w.length → dropA ad l M k = ((l, M), errV (-1) (sentV (ad 4)))) := by
  have hk := h.look k
  unfold dropA
  cases hl : lookM k M with
  | none =>
    rw [hl, Option.isSome_none] at hk
    exact ⟨fun hh => by simp [hh] at hk, fun _ => rfl⟩
  | some i =>
    rw [hl, Option.isSome_some] at hk
    refine ⟨fun _ => ?_, fun hh => by simp [hh] at hk⟩
    obtain ⟨d0, n, h1, h2, rfl⟩ := (h.ok.c.at_ _ _).1 hl
    simp only [Int.toNat_natCast]
    obtain ⟨q1, q2, _⟩ := pull_spec h.ok h1
    refine ⟨⟨q1, drop_sorted h.so k, fun x => ?_⟩, trivial⟩
    rw [q2, drop_mem, h.mem, h2]
theorem Rl.nil_iff {l w : List Due} {M : Mp} (h : Rl l M w) : l = [] ↔ w = [] := by
  rw [← List.length_eq_zero_iff, ← List.length_eq_zero_iff, h.len]
theorem Rl.head {l w : List Due} {M : Mp} {d e : Due} (h : Rl (d :: l) M (e :: w)) : d = e := by
  have h1 : d ∈ e :: w := (h.mem d).1 (by simp)
  have h2 : e ∈ d :: l := (h.mem e).2 (by simp)
  rcases List.mem_cons.1 h1 with rfl | h1
  · rfl
  have h3 := (List.pairwise_cons.1 h.so).1 d h1
  obtain ⟨n, hn⟩ := List.mem_iff_getElem?.1 h2
  have := h.ok.root (d := d) rfl n e hn
  rw [h3] at this
  cases this
theorem Rl.take {l w : List Due} {M : Mp} {d : Due} (h : Rl (d :: l) M (d :: w)) : Rl (pullR (d :: l) M 0).1 (pullR (d :: l) M 0).2 w := by
  obtain ⟨q1, q2, _⟩ := pull_spec h.ok (show (d :: l)[0]? = some d from rfl)
  obtain ⟨s1, s2⟩ := List.pairwise_cons.1 h.so
  refine ⟨q1, s2, fun x => ?_⟩
  rw [q2, h.mem, List.mem_cons]
  constructor
  · rintro ⟨rfl | a, b⟩
    · exact absurd rfl b
    · exact a
  · intro a
    refine ⟨.inr a, fun e => ?_⟩
    have := h.keys (List.mem_cons_of_mem _ a) (List.mem_cons_self ..) e
    subst this
    have := s1 x a
    rw [due_irrefl] at this
    cases this
end Go.Proofs.YthepkabfiooabaaDoor
