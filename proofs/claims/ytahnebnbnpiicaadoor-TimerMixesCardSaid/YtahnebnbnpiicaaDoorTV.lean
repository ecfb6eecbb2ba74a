/- The law TimerMixes, walked. -/
import Derived.Test.YtahnebnbnpiicaaDoorTS
set_option linter.unusedSimpArgs false
namespace Go.Proofs.YtahnebnbnpiicaaDoor
open Go.RowKit
set_option maxRecDepth 100000
set_option maxHeartbeats 4000000
attribute [local go_sem_proc ↓] reduceIte
attribute [local go_sem_proc] reduceCtorEq Nat.reduceBEq Nat.reduceAdd Nat.reduceSub Nat.reduceEqDiff Nat.reduceLT Nat.reduceLeDiff Nat.reduceMul Int.reduceToNat Int.reduceBEq Int.reduceBNe Int.reduceEq Int.reduceLT Int.reduceLE
attribute [local go_sem] ev_clear ev_makeFunc funcRd evClear List.isEmpty_cons Array.isEmpty_iff ev_makeMap ev_lookup ev_mapUpdate ev_delete evMakeMap evLookup evMapUpdate evDelete pureOf keyCmp mfind oneCells Rd.map AV.bare AV.bare.bareL AV.ofVal resRd resOne resAll HoldF HoldR Takes thenA blockA ev_move ev_assign ev_pick ev_alloc ev_box ev_build ev_buildSlice ev_load ev_store ev_binOp ev_unOp ev_convert ev_iface ev_make ev_slice ev_fieldAddr ev_field ev_indexAddr ev_index ev_extract ev_len ev_append ev_min ev_max evMin evMax gt_tmp gt_int gt_bool gt_str gt_nilS gt_nilP gt_nilI pickRd allocRd buildRd sliceRd loadRd unRd ifaceRd exRd val optRd callRd seen AV.plain adopt fzArgs Rd.run AV.asCells newBox runL Comes' Rd.row Rd.bind Out.app apps Eff.app St.renew St.setRow St.show St.put St.init upd evStore evBinR evBin eqFs eqCell evConv evSeq evLen evIndexAddr evFieldAddr evField evIndex bound evSlice evSliceF evAppend evMake loadOf fillAV fillEs fzParts fz fzCell fzCells shows isConstOp splice wrs wes Value.oneCell' List.getD_cons_zero List.getD_cons_succ List.getD_nil List.length_cons List.length_nil List.map_cons List.map_nil List.nil_append List.cons_append List.all_cons List.all_nil List.getElem?_cons_zero List.getElem?_cons_succ List.set_cons_zero List.set_cons_succ List.take_succ_cons List.take_zero List.drop_succ_cons List.drop_zero List.take_nil List.drop_nil List.replicate_succ List.replicate_zero Bool.and_true Bool.true_and Bool.and_self and_self true_and and_true Nat.zero_add Nat.add_zero Option.some.injEq Nat.zero_lt_succ Bool.not_true Bool.not_false ne_eq not_true_eq_false not_false_eq_true Option.map_some Option.map_none List.toList_toArray head headF headR List.length_map Int.toNat_natCast Int.natCast_nonneg List.getElem?_map decide_true decide_false Bool.false_eq_true if_true if_false Bool.or_self Bool.or_true Bool.true_or Bool.false_or Bool.or_false Bool.and_false Bool.false_and List.flatten_cons List.flatten_nil List.append_nil nat0 or_self or_false false_or or_true true_or and_false false_and List.length_append List.isEmpty_nil bne_self_eq_false beq_self_eq_true fits_small strL_l bytesOf_map wants Int.cast_ofNat_Int gt_iff_lt ge_iff_le
attribute [local go_sem ←] List.map_drop List.map_take
attribute [local go_sem] nilRd ev_nilCheck tmpsAre resI resIs cellRd HoldI toRL toKL gin gout nout vin grownR lay AV.ren AV.ren.renL Row.ren headR Option.bind_some Option.bind_none Option.isSome_some Option.isSome_none Option.getD_some Bool.true_eq_false PreOk PostOk EscOk wrs wes List.cons.injEq Prod.mk.injEq forall_const

theorem putA_ren (ad : Nat → Addr) (l : List Due) (M : Mp) (d : Due) : ∀ g, (putA ad l M d).2.ren g = (putA ad l M d).2 := by
  intro g
  unfold putA
  split
  · split
    · rfl
    · split <;> rfl
  · rfl
def AG2 (g : Nat → Nat) (l : List Due) (M : Mp) : List (Nat × Row) := [(2000, ⟨2, [[.row 2001 (g 2001), .mp 2002 (g 2002)]], 41, false⟩), (2001, ⟨3, l.map dueC, 32, true⟩), (2002, ⟨0, M.map encM, 39, true⟩)]
theorem Rl.keys {l w : List Due} {M : Mp} (h : Rl l M w) {x y : Due} (hx : x ∈ w) (hy : y ∈ w) (e : keyD x = keyD y) : x = y := by
  obtain ⟨i, hi⟩ := List.mem_iff_getElem?.1 ((h.mem x).2 hx)
  obtain ⟨k, hk⟩ := List.mem_iff_getElem?.1 ((h.mem y).2 hy)
  have := h.ok.c.inj hi hk e
  subst this
  rw [hi] at hk
  cases hk
  rfl
theorem putA_sub {l w : List Due} {M : Mp} (ad : Nat → Addr) (h : AgOk l M) (hs : ∀ y ∈ l, y ∈ w) (hi : ∀ x y, x ∈ w → y ∈ w → keyD x = keyD y → x = y) {d : Due} (hd : d ∈ w) (hr : rightD d = true) (hl : l.length < 1024) :
    AgOk (putA ad l M d).1.1 (putA ad l M d).1.2 ∧ (∀ y ∈ (putA ad l M d).1.1, y ∈ w) ∧ (∀ y ∈ l, y ∈ (putA ad l M d).1.1) ∧ d ∈ (putA ad l M d).1.1 := by
  obtain ⟨q1, q2, _⟩ := putA_ok ad h d hr hl
  refine ⟨q1, fun y hy => ?_, fun y hy => ?_, (q2 d).2 (.inl rfl)⟩
  · rcases (q2 y).1 hy with rfl | h
    · exact hd
    · exact hs y h.1
  · rw [q2]
    by_cases e : y = d
    · exact .inl e
    · exact .inr ⟨hy, fun e2 => e (hi y d (hs y hy) hd e2)⟩
theorem sub_len {l w : List Due} (h1 : l.Nodup) (h2 : w.Nodup) (hs : ∀ y ∈ l, y ∈ w) : l.length ≤ w.length := by
  classical
  have hp : l.Perm (w.filter fun y => decide (y ∈ l)) := (List.perm_ext_iff_of_nodup h1 (h2.filter _)).2 fun x => by simp only [List.mem_filter, decide_eq_true_eq]; exact ⟨fun h => ⟨hs x h, h⟩, fun h => h.2⟩
  rw [hp.length_eq]
  exact List.length_filter_le _ _
theorem tmixes_con (ad : Nat → Addr) (mo : More) (l : List Due) (hn : ∀ d ∈ l, d.name.length ≤ 9223372036854775807) : Con Tryd.prog (errEnv ad mo) 3 [dues l] (B true) := by
  have f0 := filled_con ad mo l hn
  have fN := tnew_con (errEnv ad mo)
  have fW := awake33_con ad mo
  obtain ⟨hR, hlen, hmem⟩ := fill_rel ad l (min l.length 100)
  have hw : (fillA ad l).2.length ≤ 100 := by show (fillN ad l (min l.length 100)).2.length ≤ 100; omega
  have hR : Rl (fillA ad l).1.1 (fillA ad l).1.2 (fillA ad l).2 := hR
  have hmem : ∀ x ∈ (fillA ad l).2, x ∈ l ∧ rightD x = true := hmem
  generalize fillA ad l = p at *
  obtain ⟨⟨la, Ma⟩, w⟩ := p
  simp only at f0 hw hR hmem
  have fS := rsame_con (errEnv ad mo) w (by omega)
  have g0 : IntKind.i64.wrap ((w.length : Int) - 1) = (w.length : Int) - 1 := wrap_in (by omega) (by omega)
  refine con_of_body Tryd.func3 rfl Tryd.call3 (by rw [Tryd.ntmps3]; simp) ?_
  rw [Tryd.ntmps3, Tryd.results3]
  repeat (first | refine aops_op' rfl (by simp only [go_sem, AG, g0]; exact ⟨rfl, rfl⟩) ?_ | refine g_run ?_ | refine g_off ?_ | refine aops_nil (d_end ?_) | refine aops_nil ?_ | refine awp_seq ?_ | refine g_text ?_ | refine g_draw Tryd.mixed ?_ | refine awp_block ?_ | refine awp_skip ?_ | (refine awp_exit ?_; simp only [thenA, blockA, ↓reduceIte, Nat.reduceEqDiff, reduceCtorEq]) | refine awp_yes' (by simp only [go_sem, AG, g0]; exact Is.rfl') ?_ | refine awp_no' (by simp only [go_sem, AG, g0]; exact Is.rfl') ?_)
  refine aops_inl [(1000, 3000), (1001, 3001), (1002, 3002)] rfl (f0) (by decide) (by decide) (by simp only [go_sem, AG, g0] <;> rfl) (by simp only [go_sem, AG, g0, and_self] <;> trivial) (by simp only [go_sem, AG, g0, and_self] <;> trivial) (by intro o; simp only [go_sem, AG, g0, behind, and_self] <;> trivial) (by intro o; simp only [go_sem, AG, g0] <;> rfl) (by simp only [go_sem, AG, g0, behind]; exact Is.rfl') (by simp only [go_sem, AG, g0, behind]; exact Is.rfl') ?_
  repeat (first | refine aops_op' rfl (by simp only [go_sem, AG, g0]; exact ⟨rfl, rfl⟩) ?_ | refine g_run ?_ | refine g_off ?_ | refine aops_nil (d_end ?_) | refine aops_nil ?_ | refine awp_seq ?_ | refine g_text ?_ | refine g_draw Tryd.mixed ?_ | refine awp_block ?_ | refine awp_skip ?_ | (refine awp_exit ?_; simp only [thenA, blockA, ↓reduceIte, Nat.reduceEqDiff, reduceCtorEq]) | refine awp_yes' (by simp only [go_sem, AG, g0]; exact Is.rfl') ?_ | refine awp_no' (by simp only [go_sem, AG, g0]; exact Is.rfl') ?_)
  refine aops_inl [(3, 1000), (1001, 1001), (1, 1002)] rfl (fN) (by decide) (by decide) (by simp only [go_sem, AG, g0] <;> rfl) (by simp only [go_sem, AG, g0, and_self] <;> trivial) (by simp only [go_sem, AG, g0, and_self] <;> trivial) (by intro o; simp only [go_sem, AG, g0, behind, and_self] <;> trivial) (by intro o; simp only [go_sem, AG, g0] <;> rfl) (by simp only [go_sem, AG, g0, behind]; exact Is.rfl') (by simp only [go_sem, AG, g0, behind]; exact Is.rfl') ?_
  repeat (first | refine aops_op' rfl (by simp only [go_sem, AG, g0]; exact ⟨rfl, rfl⟩) ?_ | refine g_run ?_ | refine g_off ?_ | refine aops_nil (d_end ?_) | refine aops_nil ?_ | refine awp_seq ?_ | refine g_text ?_ | refine g_draw Tryd.mixed ?_ | refine awp_block ?_ | refine awp_skip ?_ | (refine awp_exit ?_; simp only [thenA, blockA, ↓reduceIte, Nat.reduceEqDiff, reduceCtorEq]) | refine awp_yes' (by simp only [go_sem, AG, g0]; exact Is.rfl') ?_ | refine awp_no' (by simp only [go_sem, AG, g0]; exact Is.rfl') ?_)
  refine awp_loopH (D := Nat × List Due × Mp) (fun x vs' => [(0, dues l), (4, dues w), (5, .loc 1000 (vs' 1000) 0 0), (6, I ((x.1 : Int) - 1))]) (fun x vs' => AG vs' x.2.1 x.2.2) (fun x vs' esc' => (x.1 ≤ w.length ∧ AgOk x.2.1 x.2.2 ∧ (∀ y, y ∈ x.2.1 ↔ y ∈ w.drop x.1) ∧ x.2.1.length ≤ w.length - x.1) ∧ esc' 1000 = false ∧ esc' 1001 = false ∧ esc' 1002 = false ∧ esc' 2000 = false ∧ esc' 2001 = false ∧ esc' 2002 = false ∧ esc' 59 = false ∧ esc' 64 = false) (fun x => x.1) (w.length, [], []) ?_ ?_ ?_ ?_
  · exact ⟨⟨Nat.le_refl _, .nil, by simp, by simp⟩, by simp only [go_sem], by simp only [go_sem], by simp only [go_sem], by simp only [go_sem], by simp only [go_sem], by simp only [go_sem], by simp only [go_sem], by simp only [go_sem]⟩
  · (simp only [go_sem, AG, g0])
  · (simp only [go_sem, AG])
  rintro ⟨k, lb, Mb⟩ ws es ⟨⟨hk, hok, hm, hl⟩, e0, e1, e2, e3, e4, e5, e6, e7⟩
  simp only at hk hok hm hl
  by_cases hk0 : 0 < k
  · have hkl : k - 1 < w.length := by omega
    obtain ⟨d, hd⟩ : ∃ x, w[k - 1]? = some x := ⟨w[k - 1], List.getElem?_eq_getElem hkl⟩
    have hdw := List.mem_of_getElem? hd
    have hd' : w[((k : Int) - 1).toNat]? = some d := by rw [show ((k : Int) - 1).toNat = k - 1 by omega]; exact hd
    have g1 : (0 : Int) ≤ (k : Int) - 1 := by omega
    have g2 : (k : Int) - 1 < (w.length : Int) := by omega
    have g3 : IntKind.i64.wrap ((k : Int) - 1 - 1) = ((k - 1 : Nat) : Int) - 1 := by rw [wrap_in (by omega) (by omega)]; omega
    obtain ⟨q1, q2, q3⟩ := putA_ok ad hok d (hmem d hdw).2 (by omega)
    have hren := putA_ren ad lb Mb d
    have f1 := tput_con ad mo d lb Mb hok (hn d (hmem d hdw).1) (by omega)
    generalize putA ad lb Mb d = p at *
    repeat (first | refine aops_op' rfl (by simp only [go_sem, AG, e0, e1, e2, e3, e4, e5, e6, e7, g1, g2, g3, hd', hren]; exact ⟨rfl, rfl⟩) ?_ | refine g_run ?_ | refine g_off ?_ | refine aops_nil (d_end ?_) | refine aops_nil ?_ | refine awp_seq ?_ | refine g_text ?_ | refine g_draw Tryd.mixed ?_ | refine awp_block ?_ | refine awp_skip ?_ | (refine awp_exit ?_; simp only [thenA, blockA, ↓reduceIte, Nat.reduceEqDiff, reduceCtorEq]) | refine awp_yes' (by simp only [go_sem, AG, e0, e1, e2, e3, e4, e5, e6, e7, g1, g2, g3, hd', hren]; exact Is.rfl') ?_ | refine awp_no' (by simp only [go_sem, AG, e0, e1, e2, e3, e4, e5, e6, e7, g1, g2, g3, hd', hren]; exact Is.rfl') ?_)
    refine aops_inl [(1000, 1000), (1001, 1001), (1002, 1002)] rfl (f1) (by decide) (by decide) (by simp only [go_sem, AG, e0, e1, e2, e3, e4, e5, e6, e7, g1, g2, g3, hd', hren] <;> rfl) (by simp only [go_sem, AG, e0, e1, e2, e3, e4, e5, e6, e7, g1, g2, g3, hd', hren, and_self] <;> trivial) (by simp only [go_sem, AG, e0, e1, e2, e3, e4, e5, e6, e7, g1, g2, g3, hd', hren, and_self] <;> trivial) (by intro o; simp only [go_sem, AG, e0, e1, e2, e3, e4, e5, e6, e7, g1, g2, g3, hd', hren, behind, and_self] <;> trivial) (by intro o; simp only [go_sem, AG, e0, e1, e2, e3, e4, e5, e6, e7, g1, g2, g3, hd', hren] <;> rfl) (by simp only [go_sem, AG, e0, e1, e2, e3, e4, e5, e6, e7, g1, g2, g3, hd', hren, behind]; exact Is.rfl') (by simp only [go_sem, AG, e0, e1, e2, e3, e4, e5, e6, e7, g1, g2, g3, hd', hren, behind]; exact Is.rfl') ?_
    repeat (first | refine aops_op' rfl (by simp only [go_sem, AG, e0, e1, e2, e3, e4, e5, e6, e7, g1, g2, g3, hd', hren]; exact ⟨rfl, rfl⟩) ?_ | refine g_run ?_ | refine g_off ?_ | refine aops_nil (d_end ?_) | refine aops_nil ?_ | refine awp_seq ?_ | refine g_text ?_ | refine g_draw Tryd.mixed ?_ | refine awp_block ?_ | refine awp_skip ?_ | (refine awp_exit ?_; simp only [thenA, blockA, ↓reduceIte, Nat.reduceEqDiff, reduceCtorEq]) | refine awp_yes' (by simp only [go_sem, AG, e0, e1, e2, e3, e4, e5, e6, e7, g1, g2, g3, hd', hren]; exact Is.rfl') ?_ | refine awp_no' (by simp only [go_sem, AG, e0, e1, e2, e3, e4, e5, e6, e7, g1, g2, g3, hd', hren]; exact Is.rfl') ?_)
    refine ⟨(k - 1, p.1.1, p.1.2), ⟨⟨by simp only; omega, q1, fun y => ?_, by simp only; omega⟩, ?_, ?_, ?_, ?_, ?_, ?_, ?_, ?_⟩, ?_, ?_, ?_⟩
    · rw [q2, hm]
      have hdc := drop_cons hd
      rw [show k - 1 + 1 = k by omega] at hdc
      rw [hdc, List.mem_cons]
      constructor
      · rintro (h | ⟨h, _⟩)
        · exact .inl h
        · exact .inr h
      · rintro (h | h)
        · exact .inl h
        · by_cases e : y = d
          · exact .inl e
          · exact .inr ⟨h, fun e2 => e (hR.keys (List.mem_of_mem_drop h) hdw e2)⟩
    · simp only [go_sem, e0]
    · simp only [go_sem, e1]
    · simp only [go_sem, e2]
    · simp only [go_sem, e3]
    · simp only [go_sem, e4]
    · simp only [go_sem, e5]
    · simp only [go_sem, e6]
    · simp only [go_sem, e7]
    · (simp only [go_sem, AG, e0, e1, e2, e3, e4, e5, e6, e7, g1, g2, g3, hd', hren])
    · (simp only [go_sem, AG, e0, e1, e2, e3, e4, e5, e6, e7, g1, g2, g3, hd', hren])
    · simp only; omega
  have hk0 : k = 0 := by omega
  subst hk0
  have hRb : Rl lb Mb w := ⟨hok, hR.so, by simpa using hm⟩
  have hlb := hRb.len
  have hinj : ∀ x y, x ∈ w → y ∈ w → keyD x = keyD y → x = y := fun x y hx hy e => hR.keys hx hy e
  have hwn := hR.so.nodup
  repeat (first | refine aops_op' rfl (by simp only [go_sem, AG, e0, e1, e2, e3, e4, e5, e6, e7]; exact ⟨rfl, rfl⟩) ?_ | refine g_run ?_ | refine g_off ?_ | refine aops_nil (d_end ?_) | refine aops_nil ?_ | refine awp_seq ?_ | refine g_text ?_ | refine g_draw Tryd.mixed ?_ | refine awp_block ?_ | refine awp_skip ?_ | (refine awp_exit ?_; simp only [thenA, blockA, ↓reduceIte, Nat.reduceEqDiff, reduceCtorEq]) | refine awp_yes' (by simp only [go_sem, AG, e0, e1, e2, e3, e4, e5, e6, e7]; exact Is.rfl') ?_ | refine awp_no' (by simp only [go_sem, AG, e0, e1, e2, e3, e4, e5, e6, e7]; exact Is.rfl') ?_)
  refine aops_inl [(3, 2000), (1001, 2001), (1, 2002)] rfl (fN) (by decide) (by decide) (by simp only [go_sem, AG, e0, e1, e2, e3, e4, e5, e6, e7] <;> rfl) (by simp only [go_sem, AG, e0, e1, e2, e3, e4, e5, e6, e7, and_self] <;> trivial) (by simp only [go_sem, AG, e0, e1, e2, e3, e4, e5, e6, e7, and_self] <;> trivial) (by intro o; simp only [go_sem, AG, e0, e1, e2, e3, e4, e5, e6, e7, behind, and_self] <;> trivial) (by intro o; simp only [go_sem, AG, e0, e1, e2, e3, e4, e5, e6, e7] <;> rfl) (by simp only [go_sem, AG, e0, e1, e2, e3, e4, e5, e6, e7, behind]; exact Is.rfl') (by simp only [go_sem, AG, e0, e1, e2, e3, e4, e5, e6, e7, behind]; exact Is.rfl') ?_
  repeat (first | refine aops_op' rfl (by simp only [go_sem, AG, e0, e1, e2, e3, e4, e5, e6, e7]; exact ⟨rfl, rfl⟩) ?_ | refine g_run ?_ | refine g_off ?_ | refine aops_nil (d_end ?_) | refine aops_nil ?_ | refine awp_seq ?_ | refine g_text ?_ | refine g_draw Tryd.mixed ?_ | refine awp_block ?_ | refine awp_skip ?_ | (refine awp_exit ?_; simp only [thenA, blockA, ↓reduceIte, Nat.reduceEqDiff, reduceCtorEq]) | refine awp_yes' (by simp only [go_sem, AG, e0, e1, e2, e3, e4, e5, e6, e7]; exact Is.rfl') ?_ | refine awp_no' (by simp only [go_sem, AG, e0, e1, e2, e3, e4, e5, e6, e7]; exact Is.rfl') ?_)
  clear hm hl hk
  refine awp_loopH (D := Nat × List Due × Mp) (fun x vs' => [(4, dues w), (5, .loc 1000 (vs' 1000) 0 0), (7, .loc 2000 (vs' 2000) 0 0), (8, I (x.1 : Int))]) (fun x vs' => AG vs' lb Mb ++ AG2 vs' x.2.1 x.2.2) (fun x vs' esc' => (x.1 ≤ w.length ∧ AgOk x.2.1 x.2.2 ∧ (∀ y ∈ x.2.1, y ∈ w)) ∧ esc' 1000 = false ∧ esc' 1001 = false ∧ esc' 1002 = false ∧ esc' 2000 = false ∧ esc' 2001 = false ∧ esc' 2002 = false ∧ esc' 59 = false ∧ esc' 64 = false) (fun x => w.length - x.1) (0, [], []) ?_ ?_ ?_ ?_
  · exact ⟨⟨Nat.zero_le _, .nil, by simp⟩, by simp only [go_sem, e0], by simp only [go_sem, e1], by simp only [go_sem, e2], by simp only [go_sem], by simp only [go_sem], by simp only [go_sem], by simp only [go_sem, e6], by simp only [go_sem, e7]⟩
  · (simp only [go_sem, AG, e0, e1, e2, e3, e4, e5, e6, e7])
  · (simp only [go_sem, AG, AG2])
  clear e0 e1 e2 e3 e4 e5 e6 e7
  rintro ⟨n, lc, Mc⟩ ws es ⟨⟨hn', hok2, hs2⟩, e0, e1, e2, e3, e4, e5, e6, e7⟩
  simp only at hn' hok2 hs2
  by_cases hlt : n < w.length
  · have hpos : 0 < w.length := by omega
    have hm7 : n * 7 % w.length < w.length := Nat.mod_lt _ hpos
    obtain ⟨d, hd⟩ : ∃ x, w[n * 7 % w.length]? = some x := ⟨w[n * 7 % w.length], List.getElem?_eq_getElem hm7⟩
    have hdw := List.mem_of_getElem? hd
    have g1 := nlt hlt
    have g2 := wrap_succ hlt (by omega)
    have g3 : IntKind.i64.wrap ((n : Int) * 7) = ((n * 7 : Nat) : Int) := by rw [wrap_in (by omega) (by omega)]; omega
    have g4 : ((n * 7 : Nat) : Int).tmod (w.length : Int) = ((n * 7 % w.length : Nat) : Int) := by rw [Int.ofNat_tmod]
    have g5 : ((w.length : Nat) : Int) ≠ 0 := by omega
    have g6 : ((n * 7 % w.length : Nat) : Int) < (w.length : Int) := by omega
    have hlc := sub_len hok2.nodup hwn hs2
    obtain ⟨q1, q2, q3, q4⟩ := putA_sub ad hok2 hs2 hinj hdw (hmem d hdw).2 (by omega)
    have hren := putA_ren ad lc Mc d
    have f1 := tput_con ad mo d lc Mc hok2 (hn d (hmem d hdw).1) (by omega)
    generalize putA ad lc Mc d = p at *
    generalize n * 7 % w.length = k7 at *
    repeat (first | refine aops_op' rfl (by simp only [go_sem, AG, AG2, e0, e1, e2, e3, e4, e5, e6, e7, g1, g2, g3, g4, g5, g6, hd, hren]; exact ⟨rfl, rfl⟩) ?_ | refine g_run ?_ | refine g_off ?_ | refine aops_nil (d_end ?_) | refine aops_nil ?_ | refine awp_seq ?_ | refine g_text ?_ | refine g_draw Tryd.mixed ?_ | refine awp_block ?_ | refine awp_skip ?_ | (refine awp_exit ?_; simp only [thenA, blockA, ↓reduceIte, Nat.reduceEqDiff, reduceCtorEq]) | refine awp_yes' (by simp only [go_sem, AG, AG2, e0, e1, e2, e3, e4, e5, e6, e7, g1, g2, g3, g4, g5, g6, hd, hren]; exact Is.rfl') ?_ | refine awp_no' (by simp only [go_sem, AG, AG2, e0, e1, e2, e3, e4, e5, e6, e7, g1, g2, g3, g4, g5, g6, hd, hren]; exact Is.rfl') ?_)
    refine aops_inl [(1000, 2000), (1001, 2001), (1002, 2002)] rfl (f1) (by decide) (by decide) (by simp only [go_sem, AG, AG2, e0, e1, e2, e3, e4, e5, e6, e7, g1, g2, g3, g4, g5, g6, hd, hren] <;> rfl) (by simp only [go_sem, AG, AG2, e0, e1, e2, e3, e4, e5, e6, e7, g1, g2, g3, g4, g5, g6, hd, hren, and_self] <;> trivial) (by simp only [go_sem, AG, AG2, e0, e1, e2, e3, e4, e5, e6, e7, g1, g2, g3, g4, g5, g6, hd, hren, and_self] <;> trivial) (by intro o; simp only [go_sem, AG, AG2, e0, e1, e2, e3, e4, e5, e6, e7, g1, g2, g3, g4, g5, g6, hd, hren, behind, and_self] <;> trivial) (by intro o; simp only [go_sem, AG, AG2, e0, e1, e2, e3, e4, e5, e6, e7, g1, g2, g3, g4, g5, g6, hd, hren] <;> rfl) (by simp only [go_sem, AG, AG2, e0, e1, e2, e3, e4, e5, e6, e7, g1, g2, g3, g4, g5, g6, hd, hren, behind]; exact Is.rfl') (by simp only [go_sem, AG, AG2, e0, e1, e2, e3, e4, e5, e6, e7, g1, g2, g3, g4, g5, g6, hd, hren, behind]; exact Is.rfl') ?_
    repeat (first | refine aops_op' rfl (by simp only [go_sem, AG, AG2, e0, e1, e2, e3, e4, e5, e6, e7, g1, g2, g3, g4, g5, g6, hd, hren]; exact ⟨rfl, rfl⟩) ?_ | refine g_run ?_ | refine g_off ?_ | refine aops_nil (d_end ?_) | refine aops_nil ?_ | refine awp_seq ?_ | refine g_text ?_ | refine g_draw Tryd.mixed ?_ | refine awp_block ?_ | refine awp_skip ?_ | (refine awp_exit ?_; simp only [thenA, blockA, ↓reduceIte, Nat.reduceEqDiff, reduceCtorEq]) | refine awp_yes' (by simp only [go_sem, AG, AG2, e0, e1, e2, e3, e4, e5, e6, e7, g1, g2, g3, g4, g5, g6, hd, hren]; exact Is.rfl') ?_ | refine awp_no' (by simp only [go_sem, AG, AG2, e0, e1, e2, e3, e4, e5, e6, e7, g1, g2, g3, g4, g5, g6, hd, hren]; exact Is.rfl') ?_)
    refine ⟨(n + 1, p.1.1, p.1.2), ⟨⟨hlt, q1, q2⟩, ?_, ?_, ?_, ?_, ?_, ?_, ?_, ?_⟩, ?_, ?_, ?_⟩
    · simp only [go_sem, e0]
    · simp only [go_sem, e1]
    · simp only [go_sem, e2]
    · simp only [go_sem, e3]
    · simp only [go_sem, e4]
    · simp only [go_sem, e5]
    · simp only [go_sem, e6]
    · simp only [go_sem, e7]
    · (simp only [go_sem, AG, AG2, e0, e1, e2, e3, e4, e5, e6, e7, g1, g2, g3, g4, g5, g6, hd, hren])
    · (simp only [go_sem, AG, AG2, e0, e1, e2, e3, e4, e5, e6, e7, g1, g2, g3, g4, g5, g6, hd, hren])
    · simp only; omega
  have g1 : ¬ (n : Int) < (w.length : Int) := by omega
  repeat (first | refine aops_op' rfl (by simp only [go_sem, AG, AG2, e0, e1, e2, e3, e4, e5, e6, e7, g1]; exact ⟨rfl, rfl⟩) ?_ | refine g_run ?_ | refine g_off ?_ | refine aops_nil (d_end ?_) | refine aops_nil ?_ | refine awp_seq ?_ | refine g_text ?_ | refine g_draw Tryd.mixed ?_ | refine awp_block ?_ | refine awp_skip ?_ | (refine awp_exit ?_; simp only [thenA, blockA, ↓reduceIte, Nat.reduceEqDiff, reduceCtorEq]) | refine awp_yes' (by simp only [go_sem, AG, AG2, e0, e1, e2, e3, e4, e5, e6, e7, g1]; exact Is.rfl') ?_ | refine awp_no' (by simp only [go_sem, AG, AG2, e0, e1, e2, e3, e4, e5, e6, e7, g1]; exact Is.rfl') ?_)
  refine awp_loopH (D := Nat × List Due × Mp) (fun x vs' => [(4, dues w), (5, .loc 1000 (vs' 1000) 0 0), (7, .loc 2000 (vs' 2000) 0 0), (9, I (x.1 : Int))]) (fun x vs' => AG vs' lb Mb ++ AG2 vs' x.2.1 x.2.2) (fun x vs' esc' => (x.1 ≤ w.length ∧ AgOk x.2.1 x.2.2 ∧ (∀ y ∈ x.2.1, y ∈ w) ∧ ∀ y ∈ w.take x.1, y ∈ x.2.1) ∧ esc' 1000 = false ∧ esc' 1001 = false ∧ esc' 1002 = false ∧ esc' 2000 = false ∧ esc' 2001 = false ∧ esc' 2002 = false ∧ esc' 59 = false ∧ esc' 64 = false) (fun x => w.length - x.1) (0, lc, Mc) ?_ ?_ ?_ ?_
  · exact ⟨⟨Nat.zero_le _, hok2, hs2, by simp⟩, e0, e1, e2, e3, e4, e5, e6, e7⟩
  · (simp only [go_sem, AG, AG2, e0, e1, e2, e3, e4, e5, e6, e7, g1])
  · (simp only [go_sem, AG, AG2, e0, e1, e2, e3, e4, e5, e6, e7, g1])
  clear e0 e1 e2 e3 e4 e5 e6 e7 hok2 hs2 g1 hlt
  rintro ⟨n, lc, Mc⟩ ws es ⟨⟨hn', hok2, hs2, ht2⟩, e0, e1, e2, e3, e4, e5, e6, e7⟩
  simp only at hn' hok2 hs2 ht2
  have hlc := sub_len hok2.nodup hwn hs2
  by_cases hlt : n < w.length
  · obtain ⟨d, hd⟩ : ∃ x, w[n]? = some x := ⟨w[n], List.getElem?_eq_getElem hlt⟩
    have hdw := List.mem_of_getElem? hd
    have g1 := nlt hlt
    have g2 := wrap_succ hlt (by omega)
    obtain ⟨q1, q2, q3, q4⟩ := putA_sub ad hok2 hs2 hinj hdw (hmem d hdw).2 (by omega)
    have hren := putA_ren ad lc Mc d
    have f1 := tput_con ad mo d lc Mc hok2 (hn d (hmem d hdw).1) (by omega)
    generalize putA ad lc Mc d = p at *
    repeat (first | refine aops_op' rfl (by simp only [go_sem, AG, AG2, e0, e1, e2, e3, e4, e5, e6, e7, g1, g2, hd, hren]; exact ⟨rfl, rfl⟩) ?_ | refine g_run ?_ | refine g_off ?_ | refine aops_nil (d_end ?_) | refine aops_nil ?_ | refine awp_seq ?_ | refine g_text ?_ | refine g_draw Tryd.mixed ?_ | refine awp_block ?_ | refine awp_skip ?_ | (refine awp_exit ?_; simp only [thenA, blockA, ↓reduceIte, Nat.reduceEqDiff, reduceCtorEq]) | refine awp_yes' (by simp only [go_sem, AG, AG2, e0, e1, e2, e3, e4, e5, e6, e7, g1, g2, hd, hren]; exact Is.rfl') ?_ | refine awp_no' (by simp only [go_sem, AG, AG2, e0, e1, e2, e3, e4, e5, e6, e7, g1, g2, hd, hren]; exact Is.rfl') ?_)
    refine aops_inl [(1000, 2000), (1001, 2001), (1002, 2002)] rfl (f1) (by decide) (by decide) (by simp only [go_sem, AG, AG2, e0, e1, e2, e3, e4, e5, e6, e7, g1, g2, hd, hren] <;> rfl) (by simp only [go_sem, AG, AG2, e0, e1, e2, e3, e4, e5, e6, e7, g1, g2, hd, hren, and_self] <;> trivial) (by simp only [go_sem, AG, AG2, e0, e1, e2, e3, e4, e5, e6, e7, g1, g2, hd, hren, and_self] <;> trivial) (by intro o; simp only [go_sem, AG, AG2, e0, e1, e2, e3, e4, e5, e6, e7, g1, g2, hd, hren, behind, and_self] <;> trivial) (by intro o; simp only [go_sem, AG, AG2, e0, e1, e2, e3, e4, e5, e6, e7, g1, g2, hd, hren] <;> rfl) (by simp only [go_sem, AG, AG2, e0, e1, e2, e3, e4, e5, e6, e7, g1, g2, hd, hren, behind]; exact Is.rfl') (by simp only [go_sem, AG, AG2, e0, e1, e2, e3, e4, e5, e6, e7, g1, g2, hd, hren, behind]; exact Is.rfl') ?_
    repeat (first | refine aops_op' rfl (by simp only [go_sem, AG, AG2, e0, e1, e2, e3, e4, e5, e6, e7, g1, g2, hd, hren]; exact ⟨rfl, rfl⟩) ?_ | refine g_run ?_ | refine g_off ?_ | refine aops_nil (d_end ?_) | refine aops_nil ?_ | refine awp_seq ?_ | refine g_text ?_ | refine g_draw Tryd.mixed ?_ | refine awp_block ?_ | refine awp_skip ?_ | (refine awp_exit ?_; simp only [thenA, blockA, ↓reduceIte, Nat.reduceEqDiff, reduceCtorEq]) | refine awp_yes' (by simp only [go_sem, AG, AG2, e0, e1, e2, e3, e4, e5, e6, e7, g1, g2, hd, hren]; exact Is.rfl') ?_ | refine awp_no' (by simp only [go_sem, AG, AG2, e0, e1, e2, e3, e4, e5, e6, e7, g1, g2, hd, hren]; exact Is.rfl') ?_)
    refine ⟨(n + 1, p.1.1, p.1.2), ⟨⟨hlt, q1, q2, fun y hy => ?_⟩, ?_, ?_, ?_, ?_, ?_, ?_, ?_, ?_⟩, ?_, ?_, ?_⟩
    · rw [take_next hd, List.mem_append, List.mem_singleton] at hy
      rcases hy with hy | rfl
      · exact q3 y (ht2 y hy)
      · exact q4
    · simp only [go_sem, e0]
    · simp only [go_sem, e1]
    · simp only [go_sem, e2]
    · simp only [go_sem, e3]
    · simp only [go_sem, e4]
    · simp only [go_sem, e5]
    · simp only [go_sem, e6]
    · simp only [go_sem, e7]
    · (simp only [go_sem, AG, AG2, e0, e1, e2, e3, e4, e5, e6, e7, g1, g2, hd, hren])
    · (simp only [go_sem, AG, AG2, e0, e1, e2, e3, e4, e5, e6, e7, g1, g2, hd, hren])
    · simp only; omega
  have g1 : ¬ (n : Int) < (w.length : Int) := by omega
  have hnw : n = w.length := by omega
  rw [hnw, List.take_length] at ht2
  have hRc : Rl lc Mc w := ⟨hok2, hR.so, fun x => ⟨hs2 x, ht2 x⟩⟩
  have fA := tall_con (errEnv ad mo) lb Mb (by omega)
  have fA2 := tall_con (errEnv ad mo) lc Mc (by omega)
  rw [hRb.sort] at fA
  rw [hRc.sort] at fA2
  have fH := twhole_con (errEnv ad mo) lb Mb hok (by omega)
  have fH2 := twhole_con (errEnv ad mo) lc Mc hok2 (by omega)
  repeat (first | refine aops_op' rfl (by simp only [go_sem, AG, AG2, e0, e1, e2, e3, e4, e5, e6, e7, g1]; exact ⟨rfl, rfl⟩) ?_ | refine g_run ?_ | refine g_off ?_ | refine aops_nil (d_end ?_) | refine aops_nil ?_ | refine awp_seq ?_ | refine g_text ?_ | refine g_draw Tryd.mixed ?_ | refine awp_block ?_ | refine awp_skip ?_ | (refine awp_exit ?_; simp only [thenA, blockA, ↓reduceIte, Nat.reduceEqDiff, reduceCtorEq]) | refine awp_yes' (by simp only [go_sem, AG, AG2, e0, e1, e2, e3, e4, e5, e6, e7, g1]; exact Is.rfl') ?_ | refine awp_no' (by simp only [go_sem, AG, AG2, e0, e1, e2, e3, e4, e5, e6, e7, g1]; exact Is.rfl') ?_)
  refine aops_inl [(1000, 1000), (1001, 1001), (1002, 1002), (9, 59)] rfl (fA) (by decide) (by decide) (by simp only [go_sem, AG, AG2, e0, e1, e2, e3, e4, e5, e6, e7, g1] <;> rfl) (by simp only [go_sem, AG, AG2, e0, e1, e2, e3, e4, e5, e6, e7, g1, and_self] <;> trivial) (by simp only [go_sem, AG, AG2, e0, e1, e2, e3, e4, e5, e6, e7, g1, and_self] <;> trivial) (by intro o; simp only [go_sem, AG, AG2, e0, e1, e2, e3, e4, e5, e6, e7, g1, behind, and_self] <;> trivial) (by intro o; simp only [go_sem, AG, AG2, e0, e1, e2, e3, e4, e5, e6, e7, g1] <;> rfl) (by simp only [go_sem, AG, AG2, e0, e1, e2, e3, e4, e5, e6, e7, g1, behind]; exact Is.rfl') (by simp only [go_sem, AG, AG2, e0, e1, e2, e3, e4, e5, e6, e7, g1, behind]; exact Is.rfl') ?_
  repeat (first | refine aops_op' rfl (by simp only [go_sem, AG, AG2, e0, e1, e2, e3, e4, e5, e6, e7, g1]; exact ⟨rfl, rfl⟩) ?_ | refine g_run ?_ | refine g_off ?_ | refine aops_call' rfl (fS) (by simp only [go_sem, AG, AG2, e0, e1, e2, e3, e4, e5, e6, e7, g1]; exact Is.rfl') (by simp only [go_sem, AG, AG2, e0, e1, e2, e3, e4, e5, e6, e7, g1]; exact ⟨rfl, rfl⟩) ?_ | refine aops_nil (d_end ?_) | refine aops_nil ?_ | refine awp_seq ?_ | refine g_text ?_ | refine g_draw Tryd.mixed ?_ | refine awp_block ?_ | refine awp_skip ?_ | (refine awp_exit ?_; simp only [thenA, blockA, ↓reduceIte, Nat.reduceEqDiff, reduceCtorEq]) | refine awp_yes' (by simp only [go_sem, AG, AG2, e0, e1, e2, e3, e4, e5, e6, e7, g1]; exact Is.rfl') ?_ | refine awp_no' (by simp only [go_sem, AG, AG2, e0, e1, e2, e3, e4, e5, e6, e7, g1]; exact Is.rfl') ?_)
  refine aops_inl [(1000, 2000), (1001, 2001), (1002, 2002), (9, 64)] rfl (fA2) (by decide) (by decide) (by simp only [go_sem, AG, AG2, e0, e1, e2, e3, e4, e5, e6, e7, g1] <;> rfl) (by simp only [go_sem, AG, AG2, e0, e1, e2, e3, e4, e5, e6, e7, g1, and_self] <;> trivial) (by simp only [go_sem, AG, AG2, e0, e1, e2, e3, e4, e5, e6, e7, g1, and_self] <;> trivial) (by intro o; simp only [go_sem, AG, AG2, e0, e1, e2, e3, e4, e5, e6, e7, g1, behind, and_self] <;> trivial) (by intro o; simp only [go_sem, AG, AG2, e0, e1, e2, e3, e4, e5, e6, e7, g1] <;> rfl) (by simp only [go_sem, AG, AG2, e0, e1, e2, e3, e4, e5, e6, e7, g1, behind]; exact Is.rfl') (by simp only [go_sem, AG, AG2, e0, e1, e2, e3, e4, e5, e6, e7, g1, behind]; exact Is.rfl') ?_
  repeat (first | refine aops_op' rfl (by simp only [go_sem, AG, AG2, e0, e1, e2, e3, e4, e5, e6, e7, g1]; exact ⟨rfl, rfl⟩) ?_ | refine g_run ?_ | refine g_off ?_ | refine aops_call' rfl (fS) (by simp only [go_sem, AG, AG2, e0, e1, e2, e3, e4, e5, e6, e7, g1]; exact Is.rfl') (by simp only [go_sem, AG, AG2, e0, e1, e2, e3, e4, e5, e6, e7, g1]; exact ⟨rfl, rfl⟩) ?_ | refine aops_nil (d_end ?_) | refine aops_nil ?_ | refine awp_seq ?_ | refine g_text ?_ | refine g_draw Tryd.mixed ?_ | refine awp_block ?_ | refine awp_skip ?_ | (refine awp_exit ?_; simp only [thenA, blockA, ↓reduceIte, Nat.reduceEqDiff, reduceCtorEq]) | refine awp_yes' (by simp only [go_sem, AG, AG2, e0, e1, e2, e3, e4, e5, e6, e7, g1]; exact Is.rfl') ?_ | refine awp_no' (by simp only [go_sem, AG, AG2, e0, e1, e2, e3, e4, e5, e6, e7, g1]; exact Is.rfl') ?_)
  refine aops_inl [(1000, 1000), (1001, 1001), (1002, 1002)] rfl (fH) (by decide) (by decide) (by simp only [go_sem, AG, AG2, e0, e1, e2, e3, e4, e5, e6, e7, g1] <;> rfl) (by simp only [go_sem, AG, AG2, e0, e1, e2, e3, e4, e5, e6, e7, g1, and_self] <;> trivial) (by simp only [go_sem, AG, AG2, e0, e1, e2, e3, e4, e5, e6, e7, g1, and_self] <;> trivial) (by intro o; simp only [go_sem, AG, AG2, e0, e1, e2, e3, e4, e5, e6, e7, g1, behind, and_self] <;> trivial) (by intro o; simp only [go_sem, AG, AG2, e0, e1, e2, e3, e4, e5, e6, e7, g1] <;> rfl) (by simp only [go_sem, AG, AG2, e0, e1, e2, e3, e4, e5, e6, e7, g1, behind]; exact Is.rfl') (by simp only [go_sem, AG, AG2, e0, e1, e2, e3, e4, e5, e6, e7, g1, behind]; exact Is.rfl') ?_
  repeat (first | refine aops_op' rfl (by simp only [go_sem, AG, AG2, e0, e1, e2, e3, e4, e5, e6, e7, g1]; exact ⟨rfl, rfl⟩) ?_ | refine g_run ?_ | refine g_off ?_ | refine aops_nil (d_end ?_) | refine aops_nil ?_ | refine awp_seq ?_ | refine g_text ?_ | refine g_draw Tryd.mixed ?_ | refine awp_block ?_ | refine awp_skip ?_ | (refine awp_exit ?_; simp only [thenA, blockA, ↓reduceIte, Nat.reduceEqDiff, reduceCtorEq]) | refine awp_yes' (by simp only [go_sem, AG, AG2, e0, e1, e2, e3, e4, e5, e6, e7, g1]; exact Is.rfl') ?_ | refine awp_no' (by simp only [go_sem, AG, AG2, e0, e1, e2, e3, e4, e5, e6, e7, g1]; exact Is.rfl') ?_)
  refine aops_inl [(1000, 2000), (1001, 2001), (1002, 2002)] rfl (fH2) (by decide) (by decide) (by simp only [go_sem, AG, AG2, e0, e1, e2, e3, e4, e5, e6, e7, g1] <;> rfl) (by simp only [go_sem, AG, AG2, e0, e1, e2, e3, e4, e5, e6, e7, g1, and_self] <;> trivial) (by simp only [go_sem, AG, AG2, e0, e1, e2, e3, e4, e5, e6, e7, g1, and_self] <;> trivial) (by intro o; simp only [go_sem, AG, AG2, e0, e1, e2, e3, e4, e5, e6, e7, g1, behind, and_self] <;> trivial) (by intro o; simp only [go_sem, AG, AG2, e0, e1, e2, e3, e4, e5, e6, e7, g1] <;> rfl) (by simp only [go_sem, AG, AG2, e0, e1, e2, e3, e4, e5, e6, e7, g1, behind]; exact Is.rfl') (by simp only [go_sem, AG, AG2, e0, e1, e2, e3, e4, e5, e6, e7, g1, behind]; exact Is.rfl') ?_
  repeat (first | refine aops_op' rfl (by simp only [go_sem, AG, AG2, e0, e1, e2, e3, e4, e5, e6, e7, g1]; exact ⟨rfl, rfl⟩) ?_ | refine g_run ?_ | refine g_off ?_ | refine aops_call' rfl (fW) (by simp only [go_sem, AG, AG2, e0, e1, e2, e3, e4, e5, e6, e7, g1]; exact Is.rfl') (by simp only [go_sem, AG, AG2, e0, e1, e2, e3, e4, e5, e6, e7, g1]; exact ⟨rfl, rfl⟩) ?_ | refine aops_nil (d_end ?_) | refine aops_nil ?_ | refine awp_seq ?_ | refine g_text ?_ | refine g_draw Tryd.mixed ?_ | refine awp_block ?_ | refine awp_skip ?_ | (refine awp_exit ?_; simp only [thenA, blockA, ↓reduceIte, Nat.reduceEqDiff, reduceCtorEq]) | refine awp_yes' (by simp only [go_sem, AG, AG2, e0, e1, e2, e3, e4, e5, e6, e7, g1]; exact Is.rfl') ?_ | refine awp_no' (by simp only [go_sem, AG, AG2, e0, e1, e2, e3, e4, e5, e6, e7, g1]; exact Is.rfl') ?_)
  (refine awp_ret ?_; show (resRd _ _ _).run _ = some _; simp only [go_sem, AG, AG2, e0, e1, e2, e3, e4, e5, e6, e7, g1])
end Go.Proofs.YtahnebnbnpiicaaDoor
