/- The law TimerFull, walked. -/
import Derived.Test.YthepkabfiooabaaDoorTZ2
set_option linter.unusedSimpArgs false
namespace Go.Proofs.YthepkabfiooabaaDoor
open Go.RowKit
set_option maxRecDepth 100000
set_option maxHeartbeats 4000000
attribute [local go_sem_proc ↓] reduceIte
attribute [local go_sem_proc] reduceCtorEq Nat.reduceBEq Nat.reduceAdd Nat.reduceSub Nat.reduceEqDiff Nat.reduceLT Nat.reduceLeDiff Nat.reduceMul Int.reduceToNat Int.reduceBEq Int.reduceBNe Int.reduceEq Int.reduceLT Int.reduceLE
attribute [local go_sem] ev_clear ev_makeFunc funcRd evClear List.isEmpty_cons Array.isEmpty_iff ev_makeMap ev_lookup ev_mapUpdate ev_delete evMakeMap evLookup evMapUpdate evDelete pureOf keyCmp mfind oneCells Rd.map AV.bare AV.bare.bareL AV.ofVal resRd resOne resAll HoldF HoldR Takes thenA blockA ev_move ev_assign ev_pick ev_alloc ev_box ev_build ev_buildSlice ev_load ev_store ev_binOp ev_unOp ev_convert ev_iface ev_make ev_slice ev_fieldAddr ev_field ev_indexAddr ev_index ev_extract ev_len ev_append ev_min ev_max evMin evMax gt_tmp gt_int gt_bool gt_str gt_nilS gt_nilP gt_nilI pickRd allocRd buildRd sliceRd loadRd unRd ifaceRd exRd val optRd callRd seen AV.plain adopt fzArgs Rd.run AV.asCells newBox runL Comes' Rd.row Rd.bind Out.app apps Eff.app St.renew St.setRow St.show St.put St.init upd evStore evBinR evBin eqFs eqCell evConv evSeq evLen evIndexAddr evFieldAddr evField evIndex bound evSlice evSliceF evAppend evMake loadOf fillAV fillEs fzParts fz fzCell fzCells shows isConstOp splice wrs wes Value.oneCell' List.getD_cons_zero List.getD_cons_succ List.getD_nil List.length_cons List.length_nil List.map_cons List.map_nil List.nil_append List.cons_append List.all_cons List.all_nil List.getElem?_cons_zero List.getElem?_cons_succ List.set_cons_zero List.set_cons_succ List.take_succ_cons List.take_zero List.drop_succ_cons List.drop_zero List.take_nil List.drop_nil List.replicate_succ List.replicate_zero Bool.and_true Bool.true_and Bool.and_self and_self true_and and_true Nat.zero_add Nat.add_zero Option.some.injEq Nat.zero_lt_succ Bool.not_true Bool.not_false ne_eq not_true_eq_false not_false_eq_true Option.map_some Option.map_none List.toList_toArray head headF headR List.length_map Int.toNat_natCast Int.natCast_nonneg List.getElem?_map decide_true decide_false Bool.false_eq_true if_true if_false Bool.or_self Bool.or_true Bool.true_or Bool.false_or Bool.or_false Bool.and_false Bool.false_and List.flatten_cons List.flatten_nil List.append_nil nat0 or_self or_false false_or or_true true_or and_false false_and List.length_append List.isEmpty_nil bne_self_eq_false beq_self_eq_true fits_small strL_l bytesOf_map wants Int.cast_ofNat_Int gt_iff_lt ge_iff_le
attribute [local go_sem ←] List.map_drop List.map_take
attribute [local go_sem] nilRd ev_nilCheck tmpsAre resI resIs cellRd HoldI toRL toKL gin gout nout vin grownR lay AV.ren AV.ren.renL Row.ren headR Option.bind_some Option.bind_none Option.isSome_some Option.isSome_none Option.getD_some Bool.true_eq_false PreOk PostOk EscOk wrs wes List.cons.injEq Prod.mk.injEq forall_const

def fullD (i : Nat) : Due := ⟨((i * 37 % 500 : Nat) : Int), (i : Int), [116]⟩
theorem full_right (i : Nat) (hi : i < 2000) : rightD (fullD i) = true := by
  have h1 : ((i * 37 % 500 : Nat) : Int) < 500 := by have := Nat.mod_lt (i * 37) (show 500 > 0 by decide); omega
  unfold rightD fullD
  simp only [Bool.and_eq_true, decide_eq_true_eq]
  refine ⟨⟨⟨⟨by omega, by omega⟩, by omega⟩, by omega⟩, by decide⟩
structure FullOk (l : List Due) (M : Mp) (n : Nat) : Prop where
  ok : AgOk l M
  mem : ∀ x, x ∈ l ↔ ∃ i, i < n ∧ x = fullD i
  len : l.length = n
theorem full_none {l : List Due} {M : Mp} {n i : Nat} (h : FullOk l M n) (hi : n ≤ i) : lookM (keyD (fullD i)) M = none := by
  rw [h.ok.c.none_]
  intro d hd e
  obtain ⟨j, hj, rfl⟩ := (h.mem d).1 hd
  have : ((j : Nat) : Int) = (i : Int) := congrArg Prod.fst e
  omega
theorem full_key {d : Due} {i : Nat} (h1 : d.inst = (i : Int)) (h2 : d.name = [116]) : keyD d = keyD (fullD i) := by
  unfold keyD fullD
  rw [h1, h2]
theorem full_next {l : List Due} {M : Mp} {n : Nat} (ad : Nat → Addr) (h : FullOk l M n) (hn : n < 1024) : FullOk (putA ad l M (fullD n)).1.1 (putA ad l M (fullD n)).1.2 (n + 1) ∧ (putA ad l M (fullD n)).2 = .tuple [B true, nilE] := by
  have h0 := full_none h (Nat.le_refl n)
  unfold putA
  rw [if_pos (full_right n (by omega)), h0]
  simp only [if_pos (show l.length < 1024 by rw [h.len]; exact hn)]
  obtain ⟨q1, q2, q3⟩ := add_spec h.ok h0
  refine ⟨⟨q1, fun x => ?_, by rw [q3, h.len]⟩, trivial⟩
  rw [q2]
  constructor
  · rintro (rfl | ⟨hx, _⟩)
    · exact ⟨n, by omega, rfl⟩
    · obtain ⟨i, hi, e⟩ := (h.mem x).1 hx
      exact ⟨i, by omega, e⟩
  · rintro ⟨i, hi, rfl⟩
    by_cases e : i = n
    · exact .inl (by rw [e])
    · refine .inr ⟨(h.mem _).2 ⟨i, by omega, rfl⟩, fun e2 => e ?_⟩
      have : ((i : Nat) : Int) = (n : Int) := congrArg Prod.fst e2
      omega
/-- The sorted list of what an agenda holds. -/
theorem sort_rl {l : List Due} {M : Mp} (h : AgOk l M) : Rl l M (sortD l) := by
  refine ⟨h, ?_, fun x => (List.mem_mergeSort).symm⟩
  have h3 : (sortD l).Pairwise fun x y => (!dueLess y x) = true := List.pairwise_mergeSort (fun a b c hab hbc => by
    simp only [Bool.not_eq_true'] at *
    exact le_trans' hab hbc) (fun a b => by
    cases h1 : dueLess b a
    · rfl
    · simp [due_asymm h1]) l
  have hnd : (sortD l).Nodup := (List.mergeSort_perm l _).nodup_iff.2 h.nodup
  rw [List.nodup_iff_pairwise_ne] at hnd
  refine (h3.and hnd).imp ?_
  rintro a b ⟨h1, h2⟩
  rcases due_three a b with ⟨k, _, _⟩ | ⟨_, k, _⟩ | ⟨_, _, k⟩
  · exact k
  · rw [k] at h1; cases h1
  · exact absurd (sameD_true k) h2
/-- What is behind all others stands last. -/
theorem last_of {w : List Due} {d : Due} (h : Sorted w) (hd : d ∈ w) (hl : ∀ x ∈ w, x ≠ d → dueLess x d = true) : w[w.length - 1]? = some d := by
  obtain ⟨k, hk⟩ := List.mem_iff_getElem?.1 hd
  have hkl := (List.getElem?_eq_some_iff.1 hk).1
  by_cases e : k = w.length - 1
  · rw [← e]; exact hk
  · have h1 : k + 1 < w.length := by omega
    have hp := List.pairwise_iff_getElem.1 h k (k + 1) hkl h1 (by omega)
    rw [(List.getElem?_eq_some_iff.1 hk).2] at hp
    have hne : w[k + 1] ≠ d := fun e2 => by rw [e2, due_irrefl] at hp; cases hp
    have := hl _ (List.getElem_mem h1) hne
    rw [due_asymm hp] at this
    cases this
theorem tfull_con (ad : Nat → Addr) (mo : More) (at_ more : Int) (ha : 0 ≤ at_ ∧ at_ ≤ 255) (hm : 0 ≤ more ∧ more ≤ 255) : Con Tryd.prog (errEnv ad mo) 4 [.lit (.int .u8 at_), .lit (.int .u8 more)] (B true) := by
  have fN := tnew_con (errEnv ad mo)
  have fW := awake33_con ad mo
  have fE := tells33_one ad mo 8 (by decide) (-1)
  refine con_of_body Tryd.func4 rfl Tryd.call4 (by rw [Tryd.ntmps4]; simp) ?_
  rw [Tryd.ntmps4, Tryd.results4]
  repeat (first | refine aops_op' rfl (by simp only [go_sem]; exact ⟨rfl, rfl⟩) ?_ | refine g_run ?_ | refine g_off ?_ | refine aops_nil (d_end ?_) | refine aops_nil ?_ | refine awp_seq ?_ | refine g_text ?_ | refine g_draw Tryd.mixed ?_ | refine awp_block ?_ | refine awp_skip ?_ | (refine awp_exit ?_; simp only [thenA, blockA, ↓reduceIte, Nat.reduceEqDiff, reduceCtorEq]) | refine awp_yes' (by simp only [go_sem]; exact Is.rfl') ?_ | refine awp_no' (by simp only [go_sem]; exact Is.rfl') ?_)
  refine aops_inl [(3, 1000), (1001, 1001), (1, 1002)] rfl (fN) (by decide) (by decide) (by simp only [go_sem] <;> rfl) (by simp only [go_sem, and_self] <;> trivial) (by simp only [go_sem, and_self] <;> trivial) (by intro o; simp only [go_sem, behind, and_self] <;> trivial) (by intro o; simp only [go_sem] <;> rfl) (by simp only [go_sem, behind]; exact Is.rfl') (by simp only [go_sem, behind]; exact Is.rfl') ?_
  repeat (first | refine aops_op' rfl (by simp only [go_sem]; exact ⟨rfl, rfl⟩) ?_ | refine g_run ?_ | refine g_off ?_ | refine aops_nil (d_end ?_) | refine aops_nil ?_ | refine awp_seq ?_ | refine g_text ?_ | refine g_draw Tryd.mixed ?_ | refine awp_block ?_ | refine awp_skip ?_ | (refine awp_exit ?_; simp only [thenA, blockA, ↓reduceIte, Nat.reduceEqDiff, reduceCtorEq]) | refine awp_yes' (by simp only [go_sem]; exact Is.rfl') ?_ | refine awp_no' (by simp only [go_sem]; exact Is.rfl') ?_)
  refine awp_loopH (D := Nat × List Due × Mp) (fun x vs' => [(0, .lit (.int .u8 at_)), (1, .lit (.int .u8 more)), (5, .loc 1000 (vs' 1000) 0 0), (6, I (x.1 : Int))]) (fun x vs' => AG vs' x.2.1 x.2.2) (fun x vs' esc' => (x.1 ≤ 1024 ∧ FullOk x.2.1 x.2.2 x.1) ∧ esc' 1000 = false ∧ esc' 1001 = false ∧ esc' 1002 = false ∧ esc' 55 = false) (fun x => 1024 - x.1) (0, [], []) ?_ ?_ ?_ ?_
  · exact ⟨⟨Nat.zero_le _, .nil, fun x => by simp, rfl⟩, by simp only [go_sem], by simp only [go_sem], by simp only [go_sem], by simp only [go_sem]⟩
  · (simp only [go_sem])
  · (simp only [go_sem, AG])
  rintro ⟨n, l, M⟩ ws es ⟨⟨hn, hF⟩, e0, e1, e2, e3⟩
  simp only at hn hF
  by_cases hlt : n < 1024
  · have g1 : (n : Int) < 1024 := by omega
    have g2 := wrap_succ hlt (by omega)
    have g3 : IntKind.i64.wrap ((n : Int) * 37) = ((n * 37 : Nat) : Int) := by rw [wrap_in (by omega) (by omega)]; omega
    have g4 : ((n * 37 : Nat) : Int).tmod 500 = ((n * 37 % 500 : Nat) : Int) := rfl
    have f1 := tput_con ad mo (fullD n) l M hF.ok (by simp [fullD]) (by rw [hF.len]; omega)
    obtain ⟨hF2, hr⟩ := full_next ad hF hlt
    rw [hr] at f1
    generalize putA ad l M (fullD n) = p at *
    generalize hk : n * 37 % 500 = k at *
    have hd : dueC (fullD n) = [I (k : Int), I (n : Int), Sg [116]] := by unfold dueC fullD; rw [hk]
    rw [hd] at f1
    repeat (first | refine aops_op' rfl (by simp only [go_sem, AG, e0, e1, e2, e3, g1, g2, g3, g4]; exact ⟨rfl, rfl⟩) ?_ | refine g_run ?_ | refine g_off ?_ | refine aops_nil (d_end ?_) | refine aops_nil ?_ | refine awp_seq ?_ | refine g_text ?_ | refine g_draw Tryd.mixed ?_ | refine awp_block ?_ | refine awp_skip ?_ | (refine awp_exit ?_; simp only [thenA, blockA, ↓reduceIte, Nat.reduceEqDiff, reduceCtorEq]) | refine awp_yes' (by simp only [go_sem, AG, e0, e1, e2, e3, g1, g2, g3, g4]; exact Is.rfl') ?_ | refine awp_no' (by simp only [go_sem, AG, e0, e1, e2, e3, g1, g2, g3, g4]; exact Is.rfl') ?_)
    refine aops_inl [(1000, 1000), (1001, 1001), (1002, 1002)] rfl (f1) (by decide) (by decide) (by simp only [go_sem, AG, e0, e1, e2, e3, g1, g2, g3, g4] <;> rfl) (by simp only [go_sem, AG, e0, e1, e2, e3, g1, g2, g3, g4, and_self] <;> trivial) (by simp only [go_sem, AG, e0, e1, e2, e3, g1, g2, g3, g4, and_self] <;> trivial) (by intro o; simp only [go_sem, AG, e0, e1, e2, e3, g1, g2, g3, g4, behind, and_self] <;> trivial) (by intro o; simp only [go_sem, AG, e0, e1, e2, e3, g1, g2, g3, g4] <;> rfl) (by simp only [go_sem, AG, e0, e1, e2, e3, g1, g2, g3, g4, behind]; exact Is.rfl') (by simp only [go_sem, AG, e0, e1, e2, e3, g1, g2, g3, g4, behind]; exact Is.rfl') ?_
    repeat (first | refine aops_op' rfl (by simp only [go_sem, AG, e0, e1, e2, e3, g1, g2, g3, g4]; exact ⟨rfl, rfl⟩) ?_ | refine g_run ?_ | refine g_off ?_ | refine aops_nil (d_end ?_) | refine aops_nil ?_ | refine awp_seq ?_ | refine g_text ?_ | refine g_draw Tryd.mixed ?_ | refine awp_block ?_ | refine awp_skip ?_ | (refine awp_exit ?_; simp only [thenA, blockA, ↓reduceIte, Nat.reduceEqDiff, reduceCtorEq]) | refine awp_yes' (by simp only [go_sem, AG, e0, e1, e2, e3, g1, g2, g3, g4]; exact Is.rfl') ?_ | refine awp_no' (by simp only [go_sem, AG, e0, e1, e2, e3, g1, g2, g3, g4]; exact Is.rfl') ?_)
    refine ⟨(n + 1, p.1.1, p.1.2), ⟨⟨hlt, hF2⟩, ?_, ?_, ?_, ?_⟩, ?_, ?_, ?_⟩
    · simp only [go_sem, e0]
    · simp only [go_sem, e1]
    · simp only [go_sem, e2]
    · simp only [go_sem, e3]
    · (simp only [go_sem, AG, e0, e1, e2, e3, g1, g2, g3, g4])
    · (simp only [go_sem, AG, e0, e1, e2, e3, g1, g2, g3, g4])
    · simp only; omega
  · have g1 : ¬ (n : Int) < 1024 := by omega
    have hn : n = 1024 := by omega
    subst hn
    obtain ⟨a, rfl⟩ : ∃ a : Nat, at_ = a := ⟨at_.toNat, by omega⟩
    obtain ⟨b, rfl⟩ : ∃ b : Nat, more = b := ⟨more.toNat, by omega⟩
    have w1 : IntKind.i64.wrap (a : Int) = (a : Int) := wrap_in (by omega) (by omega)
    have w2 : IntKind.i64.wrap (b : Int) = (b : Int) := wrap_in (by omega) (by omega)
    have w3 : IntKind.i64.wrap (1024 + (b : Int)) = ((1024 + b : Nat) : Int) := by rw [wrap_in (by omega) (by omega)]; omega
    -- one more than fits
    have k1 : keyD ⟨(a : Int), ((1024 + b : Nat) : Int), [116]⟩ = keyD (fullD (1024 + b)) := full_key rfl rfl
    have r1 : rightD ⟨(a : Int), ((1024 + b : Nat) : Int), [116]⟩ = true := by
      unfold rightD
      simp only [Bool.and_eq_true, decide_eq_true_eq]
      exact ⟨⟨⟨⟨by omega, by omega⟩, by omega⟩, by omega⟩, by decide⟩
    have p1 : putA ad l M ⟨(a : Int), ((1024 + b : Nat) : Int), [116]⟩ = ((l, M), .tuple [B false, errV (-1) (sentV (ad 8))]) := by
      unfold putA
      rw [if_pos r1, k1, full_none hF (by omega)]
      simp only
      rw [if_neg (by rw [hF.len]; omega)]
    have f1 := tput_con ad mo ⟨(a : Int), ((1024 + b : Nat) : Int), [116]⟩ l M hF.ok (by simp) (by rw [hF.len]; omega)
    rw [p1] at f1
    -- one in the place of another
    have r2 : rightD ⟨1000, (b : Int), [116]⟩ = true := by
      unfold rightD
      simp only [Bool.and_eq_true, decide_eq_true_eq]
      exact ⟨⟨⟨⟨by omega, by omega⟩, by omega⟩, by omega⟩, by decide⟩
    have hb : fullD b ∈ l := (hF.mem _).2 ⟨b, by omega, rfl⟩
    obtain ⟨i, hi⟩ := List.mem_iff_getElem?.1 hb
    have hfi := hF.ok.c.find hi
    have k2 : keyD ⟨1000, (b : Int), [116]⟩ = keyD (fullD b) := full_key rfl rfl
    have p2 : putA ad l M ⟨1000, (b : Int), [116]⟩ = (setR l M ⟨1000, (b : Int), [116]⟩ i, .tuple [B false, nilE]) := by
      unfold putA
      rw [if_pos r2, k2, hfi]
      rfl
    have f2 := tput_con ad mo ⟨1000, (b : Int), [116]⟩ l M hF.ok (by simp) (by rw [hF.len]; omega)
    rw [p2] at f2
    obtain ⟨q1, q2, q3⟩ := set_spec hF.ok hi k2.symm
    have hS := sort_rl q1
    have hlast : (sortD (setR l M ⟨1000, (b : Int), [116]⟩ i).1)[1023]? = some ⟨1000, (b : Int), [116]⟩ := by
      have := last_of (d := ⟨1000, (b : Int), [116]⟩) hS.so ((hS.mem _).1 ((q2 _).2 (.inl rfl))) fun x hx hne => by
        rcases (q2 x).1 ((hS.mem x).2 hx) with e | ⟨e, _⟩
        · exact absurd e hne
        · obtain ⟨j, hj, rfl⟩ := (hF.mem x).1 e
          have h1 : ((j * 37 % 500 : Nat) : Int) < 500 := by have := Nat.mod_lt (j * 37) (show 500 > 0 by decide); omega
          unfold dueLess fullD
          rw [if_neg (by simp only; omega)]
          exact decide_eq_true (by simp only; omega)
      rw [← hS.len, q3, hF.len] at this
      exact this
    have hsl : (sortD (setR l M ⟨1000, (b : Int), [116]⟩ i).1).length = 1024 := by rw [← hS.len, q3, hF.len]
    have fA := tall_con (errEnv ad mo) (setR l M ⟨1000, (b : Int), [116]⟩ i).1 (setR l M ⟨1000, (b : Int), [116]⟩ i).2 (by rw [q3, hF.len]; omega)
    have fH := twhole_con (errEnv ad mo) (setR l M ⟨1000, (b : Int), [116]⟩ i).1 (setR l M ⟨1000, (b : Int), [116]⟩ i).2 q1 (by rw [q3, hF.len]; omega)
    simp only at f1 f2
    generalize setR l M ⟨1000, (b : Int), [116]⟩ i = q at *
    generalize sortD q.1 = s at *
    have c1 : ((s.length : Nat) : Int) = 1024 := by omega
    have c2 : (1023 : Int) < ((s.length : Nat) : Int) := by omega
    simp only [dueC] at f1 f2
    repeat (first | refine aops_op' rfl (by simp only [go_sem, AG, dueC, e0, e1, e2, e3, g1, w1, w2, w3, hlast, c1, c2]; exact ⟨rfl, rfl⟩) ?_ | refine g_run ?_ | refine g_off ?_ | refine aops_nil (d_end ?_) | refine aops_nil ?_ | refine awp_seq ?_ | refine g_text ?_ | refine g_draw Tryd.mixed ?_ | refine awp_block ?_ | refine awp_skip ?_ | (refine awp_exit ?_; simp only [thenA, blockA, ↓reduceIte, Nat.reduceEqDiff, reduceCtorEq]) | refine awp_yes' (by simp only [go_sem, AG, dueC, e0, e1, e2, e3, g1, w1, w2, w3, hlast, c1, c2]; exact Is.rfl') ?_ | refine awp_no' (by simp only [go_sem, AG, dueC, e0, e1, e2, e3, g1, w1, w2, w3, hlast, c1, c2]; exact Is.rfl') ?_)
    refine aops_inl [(1000, 1000), (1001, 1001), (1002, 1002)] rfl (f1) (by decide) (by decide) (by simp only [go_sem, AG, dueC, e0, e1, e2, e3, g1, w1, w2, w3, hlast, c1, c2] <;> rfl) (by simp only [go_sem, AG, dueC, e0, e1, e2, e3, g1, w1, w2, w3, hlast, c1, c2, and_self] <;> trivial) (by simp only [go_sem, AG, dueC, e0, e1, e2, e3, g1, w1, w2, w3, hlast, c1, c2, and_self] <;> trivial) (by intro o; simp only [go_sem, AG, dueC, e0, e1, e2, e3, g1, w1, w2, w3, hlast, c1, c2, behind, and_self] <;> trivial) (by intro o; simp only [go_sem, AG, dueC, e0, e1, e2, e3, g1, w1, w2, w3, hlast, c1, c2] <;> rfl) (by simp only [go_sem, AG, dueC, e0, e1, e2, e3, g1, w1, w2, w3, hlast, c1, c2, behind]; exact Is.rfl') (by simp only [go_sem, AG, dueC, e0, e1, e2, e3, g1, w1, w2, w3, hlast, c1, c2, behind]; exact Is.rfl') ?_
    repeat (first | refine aops_op' rfl (by simp only [go_sem, AG, dueC, e0, e1, e2, e3, g1, w1, w2, w3, hlast, c1, c2]; exact ⟨rfl, rfl⟩) ?_ | refine g_run ?_ | refine g_off ?_ | refine aops_nil (d_end ?_) | refine aops_nil ?_ | refine awp_seq ?_ | refine g_text ?_ | refine g_draw Tryd.mixed ?_ | refine awp_block ?_ | refine awp_skip ?_ | (refine awp_exit ?_; simp only [thenA, blockA, ↓reduceIte, Nat.reduceEqDiff, reduceCtorEq]) | refine awp_yes' (by simp only [go_sem, AG, dueC, e0, e1, e2, e3, g1, w1, w2, w3, hlast, c1, c2]; exact Is.rfl') ?_ | refine awp_no' (by simp only [go_sem, AG, dueC, e0, e1, e2, e3, g1, w1, w2, w3, hlast, c1, c2]; exact Is.rfl') ?_)
    refine aops_inl [(1000, 1000), (1001, 1001), (1002, 1002)] rfl (f2) (by decide) (by decide) (by simp only [go_sem, AG, dueC, e0, e1, e2, e3, g1, w1, w2, w3, hlast, c1, c2] <;> rfl) (by simp only [go_sem, AG, dueC, e0, e1, e2, e3, g1, w1, w2, w3, hlast, c1, c2, and_self] <;> trivial) (by simp only [go_sem, AG, dueC, e0, e1, e2, e3, g1, w1, w2, w3, hlast, c1, c2, and_self] <;> trivial) (by intro o; simp only [go_sem, AG, dueC, e0, e1, e2, e3, g1, w1, w2, w3, hlast, c1, c2, behind, and_self] <;> trivial) (by intro o; simp only [go_sem, AG, dueC, e0, e1, e2, e3, g1, w1, w2, w3, hlast, c1, c2] <;> rfl) (by simp only [go_sem, AG, dueC, e0, e1, e2, e3, g1, w1, w2, w3, hlast, c1, c2, behind]; exact Is.rfl') (by simp only [go_sem, AG, dueC, e0, e1, e2, e3, g1, w1, w2, w3, hlast, c1, c2, behind]; exact Is.rfl') ?_
    repeat (first | refine aops_op' rfl (by simp only [go_sem, AG, dueC, e0, e1, e2, e3, g1, w1, w2, w3, hlast, c1, c2]; exact ⟨rfl, rfl⟩) ?_ | refine g_run ?_ | refine g_off ?_ | refine aops_nil (d_end ?_) | refine aops_nil ?_ | refine awp_seq ?_ | refine g_text ?_ | refine g_draw Tryd.mixed ?_ | refine awp_block ?_ | refine awp_skip ?_ | (refine awp_exit ?_; simp only [thenA, blockA, ↓reduceIte, Nat.reduceEqDiff, reduceCtorEq]) | refine awp_yes' (by simp only [go_sem, AG, dueC, e0, e1, e2, e3, g1, w1, w2, w3, hlast, c1, c2]; exact Is.rfl') ?_ | refine awp_no' (by simp only [go_sem, AG, dueC, e0, e1, e2, e3, g1, w1, w2, w3, hlast, c1, c2]; exact Is.rfl') ?_)
    refine aops_inl [(1000, 1000), (1001, 1001), (1002, 1002), (9, 55)] rfl (fA) (by decide) (by decide) (by simp only [go_sem, AG, dueC, e0, e1, e2, e3, g1, w1, w2, w3, hlast, c1, c2] <;> rfl) (by simp only [go_sem, AG, dueC, e0, e1, e2, e3, g1, w1, w2, w3, hlast, c1, c2, and_self] <;> trivial) (by simp only [go_sem, AG, dueC, e0, e1, e2, e3, g1, w1, w2, w3, hlast, c1, c2, and_self] <;> trivial) (by intro o; simp only [go_sem, AG, dueC, e0, e1, e2, e3, g1, w1, w2, w3, hlast, c1, c2, behind, and_self] <;> trivial) (by intro o; simp only [go_sem, AG, dueC, e0, e1, e2, e3, g1, w1, w2, w3, hlast, c1, c2] <;> rfl) (by simp only [go_sem, AG, dueC, e0, e1, e2, e3, g1, w1, w2, w3, hlast, c1, c2, behind]; exact Is.rfl') (by simp only [go_sem, AG, dueC, e0, e1, e2, e3, g1, w1, w2, w3, hlast, c1, c2, behind]; exact Is.rfl') ?_
    repeat (first | refine aops_op' rfl (by simp only [go_sem, AG, dueC, e0, e1, e2, e3, g1, w1, w2, w3, hlast, c1, c2]; exact ⟨rfl, rfl⟩) ?_ | refine g_run ?_ | refine g_off ?_ | refine aops_call' rfl (fE) (by simp only [go_sem, AG, dueC, e0, e1, e2, e3, g1, w1, w2, w3, hlast, c1, c2]; exact Is.rfl') (by simp only [go_sem, AG, dueC, e0, e1, e2, e3, g1, w1, w2, w3, hlast, c1, c2]; exact ⟨rfl, rfl⟩) ?_ | refine aops_nil (d_end ?_) | refine aops_nil ?_ | refine awp_seq ?_ | refine g_text ?_ | refine g_draw Tryd.mixed ?_ | refine awp_block ?_ | refine awp_skip ?_ | (refine awp_exit ?_; simp only [thenA, blockA, ↓reduceIte, Nat.reduceEqDiff, reduceCtorEq]) | refine awp_yes' (by simp only [go_sem, AG, dueC, e0, e1, e2, e3, g1, w1, w2, w3, hlast, c1, c2]; exact Is.rfl') ?_ | refine awp_no' (by simp only [go_sem, AG, dueC, e0, e1, e2, e3, g1, w1, w2, w3, hlast, c1, c2]; exact Is.rfl') ?_)
    refine aops_inl [(1000, 1000), (1001, 1001), (1002, 1002)] rfl (fH) (by decide) (by decide) (by simp only [go_sem, AG, dueC, e0, e1, e2, e3, g1, w1, w2, w3, hlast, c1, c2] <;> rfl) (by simp only [go_sem, AG, dueC, e0, e1, e2, e3, g1, w1, w2, w3, hlast, c1, c2, and_self] <;> trivial) (by simp only [go_sem, AG, dueC, e0, e1, e2, e3, g1, w1, w2, w3, hlast, c1, c2, and_self] <;> trivial) (by intro o; simp only [go_sem, AG, dueC, e0, e1, e2, e3, g1, w1, w2, w3, hlast, c1, c2, behind, and_self] <;> trivial) (by intro o; simp only [go_sem, AG, dueC, e0, e1, e2, e3, g1, w1, w2, w3, hlast, c1, c2] <;> rfl) (by simp only [go_sem, AG, dueC, e0, e1, e2, e3, g1, w1, w2, w3, hlast, c1, c2, behind]; exact Is.rfl') (by simp only [go_sem, AG, dueC, e0, e1, e2, e3, g1, w1, w2, w3, hlast, c1, c2, behind]; exact Is.rfl') ?_
    repeat (first | refine aops_op' rfl (by simp only [go_sem, AG, dueC, e0, e1, e2, e3, g1, w1, w2, w3, hlast, c1, c2]; exact ⟨rfl, rfl⟩) ?_ | refine g_run ?_ | refine g_off ?_ | refine aops_call' rfl (fW) (by simp only [go_sem, AG, dueC, e0, e1, e2, e3, g1, w1, w2, w3, hlast, c1, c2]; exact Is.rfl') (by simp only [go_sem, AG, dueC, e0, e1, e2, e3, g1, w1, w2, w3, hlast, c1, c2]; exact ⟨rfl, rfl⟩) ?_ | refine aops_nil (d_end ?_) | refine aops_nil ?_ | refine awp_seq ?_ | refine g_text ?_ | refine g_draw Tryd.mixed ?_ | refine awp_block ?_ | refine awp_skip ?_ | (refine awp_exit ?_; simp only [thenA, blockA, ↓reduceIte, Nat.reduceEqDiff, reduceCtorEq]) | refine awp_yes' (by simp only [go_sem, AG, dueC, e0, e1, e2, e3, g1, w1, w2, w3, hlast, c1, c2]; exact Is.rfl') ?_ | refine awp_no' (by simp only [go_sem, AG, dueC, e0, e1, e2, e3, g1, w1, w2, w3, hlast, c1, c2]; exact Is.rfl') ?_)
    (refine awp_ret ?_; show (resRd _ _ _).run _ = some _; simp only [go_sem, AG, dueC, e0, e1, e2, e3, g1, w1, w2, w3, hlast, c1, c2])
end Go.Proofs.YthepkabfiooabaaDoor
