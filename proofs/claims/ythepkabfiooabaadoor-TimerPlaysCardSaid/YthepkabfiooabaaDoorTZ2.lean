/- The law's own step: a call of an agenda, and of the document's. -/
import Derived.Test.YthepkabfiooabaaDoorTZ
set_option linter.unusedSimpArgs false
namespace Go.Proofs.YthepkabfiooabaaDoor
open Go.RowKit
set_option maxRecDepth 100000
set_option maxHeartbeats 4000000
attribute [local go_sem_proc ↓] reduceIte
attribute [local go_sem_proc] reduceCtorEq Nat.reduceBEq Nat.reduceAdd Nat.reduceSub Nat.reduceEqDiff Nat.reduceLT Nat.reduceLeDiff Nat.reduceMul Int.reduceToNat Int.reduceBEq Int.reduceBNe Int.reduceEq Int.reduceLT Int.reduceLE
attribute [local go_sem] ev_clear ev_makeFunc funcRd evClear List.isEmpty_cons Array.isEmpty_iff ev_makeMap ev_lookup ev_mapUpdate ev_delete evMakeMap evLookup evMapUpdate evDelete pureOf keyCmp mfind oneCells Rd.map AV.bare AV.bare.bareL AV.ofVal resRd resOne resAll HoldF HoldR Takes thenA blockA ev_move ev_assign ev_pick ev_alloc ev_box ev_build ev_buildSlice ev_load ev_store ev_binOp ev_unOp ev_convert ev_iface ev_make ev_slice ev_fieldAddr ev_field ev_indexAddr ev_index ev_extract ev_len ev_append ev_min ev_max evMin evMax gt_tmp gt_int gt_bool gt_str gt_nilS gt_nilP gt_nilI pickRd allocRd buildRd sliceRd loadRd unRd ifaceRd exRd val optRd callRd seen AV.plain adopt fzArgs Rd.run AV.asCells newBox runL Comes' Rd.row Rd.bind Out.app apps Eff.app St.renew St.setRow St.show St.put St.init upd evStore evBinR evBin eqFs eqCell evConv evSeq evLen evIndexAddr evFieldAddr evField evIndex bound evSlice evSliceF evAppend evMake loadOf fillAV fillEs fzParts fz fzCell fzCells shows isConstOp splice wrs wes Value.oneCell' List.getD_cons_zero List.getD_cons_succ List.getD_nil List.length_cons List.length_nil List.map_cons List.map_nil List.nil_append List.cons_append List.all_cons List.all_nil List.getElem?_cons_zero List.getElem?_cons_succ List.set_cons_zero List.set_cons_succ List.take_succ_cons List.take_zero List.drop_succ_cons List.drop_zero List.take_nil List.drop_nil List.replicate_succ List.replicate_zero Bool.and_true Bool.true_and Bool.and_self and_self true_and and_true Nat.zero_add Nat.add_zero Option.some.injEq Nat.zero_lt_succ Bool.not_true Bool.not_false ne_eq not_true_eq_false not_false_eq_true Option.map_some Option.map_none List.toList_toArray head headF headR List.length_map Int.toNat_natCast Int.natCast_nonneg List.getElem?_map decide_true decide_false Bool.false_eq_true if_true if_false Bool.or_self Bool.or_true Bool.true_or Bool.false_or Bool.or_false Bool.and_false Bool.false_and List.flatten_cons List.flatten_nil List.append_nil nat0 or_self or_false false_or or_true true_or and_false false_and List.length_append List.isEmpty_nil bne_self_eq_false beq_self_eq_true fits_small strL_l bytesOf_map wants Int.cast_ofNat_Int gt_iff_lt ge_iff_le
attribute [local go_sem ←] List.map_drop List.map_take
attribute [local go_sem] nilRd ev_nilCheck tmpsAre resI resIs cellRd HoldI toRL toKL gin gout nout vin grownR lay AV.ren AV.ren.renL Row.ren headR Option.bind_some Option.bind_none Option.isSome_some Option.isSome_none Option.getD_some Bool.true_eq_false PreOk PostOk EscOk wrs wes List.cons.injEq Prod.mk.injEq forall_const

/-- A row of a callee's own, as one that all may lean on. -/
theorem OwnR.seq {S : Nat → Nat → Prop} {w : World} {base : Nat} {v : Value} {e : TypeId} {sz : Nat} {es : List (List AV)} (h : OwnR S w base v e sz es) :
    ∃ S' : Nat → Nat → Prop, (∀ b o, S b o → S' b o) ∧ (∀ b o, S' b o → S b o ∨ (base ≤ b ∧ b < w.heap.size)) ∧ RV S' w v (.seq sz es) := by
  obtain ⟨l, ho, hpos, hE, _⟩ := h
  obtain ⟨S', hS'⟩ : ∃ S' : Nat → Nat → Prop, S' = fun b o => S b o ∨ v.ownBlock = some b := ⟨_, rfl⟩
  have hsup : ∀ b o, S b o → S' b o ∧ Stay w w b o := fun b o hh => ⟨by rw [hS']; exact .inl hh, .rfl⟩
  refine ⟨S', fun b o hh => (hsup b o hh).1, fun b o hh => ?_, ?_⟩
  · rw [hS'] at hh
    exact hh.imp id fun hh => own_block ho hh
  rcases ho.2 with ⟨rfl, hn⟩ | ⟨g, cap, cur, rfl, hb, hc, hle, _, _, htake⟩
  · have hes : es = [] := List.eq_nil_of_length_eq_zero hn
    subst hes
    exact .seq none 0 0 sz [] 0 0 (fun _ _ => undef) rfl (Nat.le_refl _) (fun hh => by omega) (fun i e he => by simp at he) (fun i j c hh => by simp [cellAt] at hh) (fun i j c hh => by simp [cellAt] at hh)
  · have k := hE
    refine .seq (some ⟨g, 0, none⟩) es.length cap sz es g 0 (fun i j => l.getD (i * sz + j) undef) rfl hle (fun _ => rfl) k.els (fun i j c hcc => ?_) fun i j c hcc => ?_
    · obtain ⟨u, h1, h2⟩ := k.cell i j c hcc
      have hu : l.getD (i * sz + j) undef = u := by simp [List.getD, h1]
      rw [hu, Nat.zero_add]
      exact ⟨by rw [hS']; exact .inr rfl, own_cell ho rfl _ u h1, k.one u (List.mem_of_getElem? h1)⟩
    · obtain ⟨u, h1, h2⟩ := k.cell i j c hcc
      have hu : l.getD (i * sz + j) undef = u := by simp [List.getD, h1]
      rw [hu]
      exact h2.mono hsup
theorem Con.seen {P : Program} {env : Env} {f : FuncId} {cs : List AV} {e : TypeId} {sz : Nat} {es : List (List AV)} (h : Con P env f cs (.own e sz es)) : Con P env f cs (.seq sz es) := by
  refine ⟨h.enter, fun w S vs hE hl hv => (h.calls w S vs hE hl hv).mono ?_⟩
  rintro ex w' ⟨v, rfl, hb, S1, h1, h2, h3, hr⟩
  obtain ⟨S2, k1, k2, k3⟩ := OwnR.seq hr
  exact ⟨v, rfl, hb, S2, fun b o hh => k1 b o (h1 b o hh), fun b o hh => (k2 b o hh).elim (h2 b o) fun q => .inr q.1, fun b o hh => (k2 b o hh).elim (h3 b o) fun q => q.2, k3⟩

/-! An error of two links -/
theorem err_at2 {S : Nat → Nat → Prop} {w : World} {v : Value} {p : AV} {q : Int} {a : Addr} (h : RV S w v (.iface 78 (.ref 3 [[.any, p, errV q (sentV a)]] 0 0))) (ha : Lies w a) : ErrAt w a 2 v := by
  cases h with
  | iface t v c h =>
    cases h with
    | ref sz es i off b o u hz hc hr =>
      have h2 := hc 0 2 (errV q (sentV a)) rfl
      have h3 := err_at (hr 0 2 (errV q (sentV a)) rfl) ha
      refine ⟨b, o + (0 * 3 + 0), u 0 2, rfl, ?_, h3⟩
      have := h2.2.1
      simpa using this
theorem code2_con (ad : Nat → Addr) (mo : More) (k : Nat) (hk : 1 ≤ k ∧ k ≤ 9) (p : AV) (q : Int) : Con Tryd.prog (errEnv ad mo) 36 [.iface 78 (.ref 3 [[.any, p, errV q (sentV (ad k))]] 0 0)] (I k) :=
  con_lit Tryd.call36 fun w S vs hE hl hv => by
    match vs, hl with
    | [v], _ =>
      have hS : Sents w ad := hE.inv.1
      refine (code_any hS k hk 2 v (err_at2 (hv 0 v _ rfl rfl) (sents_lies hS k hk))).mono ?_
      rintro e w' ⟨rfl, rfl⟩
      exact ⟨rfl, Below.refl _ _⟩
theorem tells33_two (ad : Nat → Addr) (mo : More) (k : Nat) (hk : 1 ≤ k ∧ k ≤ 9) (p q : Int) : Con Tryd.prog (errEnv ad mo) 15 [errV p (errV q (sentV (ad k))), I k] (B true) := by
  have f1 := code2_con ad mo k hk (I p) q
  have h0 : ((k : Int) == 0) = false := by simp; omega
  refine con_of_body Tryd.func15 rfl Tryd.call15 (by rw [Tryd.ntmps15]; simp) ?_
  rw [Tryd.ntmps15, Tryd.results15]
  repeat (first | refine aops_op' rfl (by simp only [go_sem, h0]; exact ⟨rfl, rfl⟩) ?_ | refine g_run ?_ | refine g_off ?_ | refine aops_call' rfl (f1) (by simp only [go_sem, h0]; exact Is.rfl') (by simp only [go_sem, h0]; exact ⟨rfl, rfl⟩) ?_ | refine aops_nil (d_end ?_) | refine aops_nil ?_ | refine awp_seq ?_ | refine g_text ?_ | refine g_draw Tryd.mixed ?_ | refine awp_block ?_ | refine awp_skip ?_ | (refine awp_exit ?_; simp only [thenA, blockA, ↓reduceIte, Nat.reduceEqDiff, reduceCtorEq]) | refine awp_yes' (by simp only [go_sem, h0]; exact Is.rfl') ?_ | refine awp_no' (by simp only [go_sem, h0]; exact Is.rfl') ?_)
  (refine awp_ret ?_; show (resRd _ _ _).run _ = some _; simp only [go_sem, h0])

structure ActT where
  kind : Int
  due : Due
def actT (x : ActT) : List AV := [I x.kind, I x.due.at_, I x.due.inst, Sg x.due.name]
def takeW (w : List Due) (a : Int) : List Due := match w with
  | [] => []
  | d :: w' => if clockB a = true then (if a < d.at_ then d :: w' else w') else d :: w'
theorem takeW_off {w : List Due} {a : Int} (h : clockB a = false) : takeW w a = w := by
  unfold takeW
  cases w <;> simp [h]
def stepW (w : List Due) (x : ActT) : List Due :=
  if x.kind = 0 then (putW w x.due).1
  else if x.kind = 1 then (if (dropW w (keyD x.due)).length < w.length then dropW w (keyD x.due) else w)
  else if x.kind = 2 then dropAllW w x.due.inst
  else takeW w x.due.at_
def stepA (ad : Nat → Addr) (l w : List Due) (M : Mp) (x : ActT) : List Due × Mp :=
  if x.kind = 0 then (putA ad l M x.due).1
  else if x.kind = 1 then (dropA ad l M (keyD x.due)).1
  else if x.kind = 2 then daN w x.due.inst l M w.length
  else (takeA ad l M x.due.at_).1
theorem Rl.step {l w : List Due} {M : Mp} (ad : Nat → Addr) (h : Rl l M w) (x : ActT) : Rl (stepA ad l w M x).1 (stepA ad l w M x).2 (stepW w x) := by
  unfold stepA stepW
  split
  · exact (h.put ad x.due).1
  split
  · split
    · rename_i hlt; exact ((h.drop ad _).1 hlt).1
    · rename_i hlt; rw [(h.drop ad _).2 hlt]; exact h
  split
  · exact (h.dropAll _).1
  unfold takeA takeW
  cases w with
  | nil =>
    have hn := h.nil_iff.2 rfl
    subst hn
    simp only
    split <;> exact h
  | cons d w =>
    cases l with
    | nil => exact absurd (h.nil_iff.1 rfl) (by simp)
    | cons d' l =>
      have hd := h.head
      subst hd
      simp only
      split
      · split
        · exact h
        · exact h.take
      · exact h
theorem stepW_len (w : List Due) (x : ActT) : (stepW w x).length ≤ w.length + 1 := by
  unfold stepW
  split
  · exact putW_len w x.due
  split
  · split <;> omega
  split
  · unfold dropAllW; have := List.length_filter_le (fun d : Due => d.inst != x.due.inst) w; omega
  unfold takeW
  cases w with
  | nil => simp
  | cons d w => simp only; split <;> (try split) <;> simp <;> omega
theorem lstep_con (ad : Nat → Addr) (mo : More) (l w : List Due) (M : Mp) (x : ActT) (h : Rl l M w) (hl : w.length ≤ 4000) (hx : x.due.name.length ≤ 9223372036854775807) :
    ConI Tryd.prog (errEnv ad mo) 19 [1000, 1001, 1002] (fun k => k == 1001) (fun g => [.loc 1000 (g 1000) 0 0, dues w, .agg (actT x)]) (fun g => AG g l M) (fun g => AG g (stepA ad l w M x).1 (stepA ad l w M x).2) (fun _ => .tuple [dues (stepW w x), B true]) := by
  have hlen := h.len
  obtain ⟨kind, d⟩ := x
  simp only at hx
  unfold stepA stepW
  simp only
  by_cases k0 : kind = 0
  · simp only [if_pos k0]
    subst k0
    have f1 := rput_con (errEnv ad mo) w d hl
    have f2 := tput_con ad mo d l M h.ok hx (by omega)
    obtain ⟨_, ht⟩ := h.put ad d
    generalize putA ad l M d = p at *
    generalize putW w d = q at *
    obtain ⟨q0, is, code⟩ := q
    obtain ⟨⟨l', M'⟩, r⟩ := p
    simp only at f1 f2 ht ⊢
    rcases ht with ⟨rfl, rfl⟩ | ⟨rfl, rfl⟩ | ⟨rfl, rfl⟩
    · have f3 := tells33_nil (errEnv ad mo)
      refine ⟨Tryd.call19, _, _, Tryd.func19, rfl, (by intro _; rw [Tryd.ntmps19]; simp), ?_⟩
      intro vs esc hesc
      rw [Tryd.ntmps19, Tryd.results19]
      have e0 := hesc 1000 (by simp)
      have e1 := hesc 1001 (by simp)
      have e2 := hesc 1002 (by simp)
      repeat (first | refine aops_op' rfl (by simp only [go_sem, AG, actT, dueC, e0, e1, e2]; exact ⟨rfl, rfl⟩) ?_ | refine g_run ?_ | refine g_off ?_ | refine aops_call' rfl (f1) (by simp only [go_sem, AG, actT, dueC, e0, e1, e2]; exact Is.rfl') (by simp only [go_sem, AG, actT, dueC, e0, e1, e2]; exact ⟨rfl, rfl⟩) ?_ | refine aops_nil (d_end ?_) | refine aops_nil ?_ | refine awp_seq ?_ | refine g_text ?_ | refine g_draw Tryd.mixed ?_ | refine awp_block ?_ | refine awp_skip ?_ | (refine awp_exit ?_; simp only [thenA, blockA, ↓reduceIte, Nat.reduceEqDiff, reduceCtorEq]) | refine awp_yes' (by simp only [go_sem, AG, actT, dueC, e0, e1, e2]; exact Is.rfl') ?_ | refine awp_no' (by simp only [go_sem, AG, actT, dueC, e0, e1, e2]; exact Is.rfl') ?_)
      refine aops_inl [(1000, 1000), (1001, 1001), (1002, 1002)] rfl (f2) (by decide) (by decide) (by simp only [go_sem, AG, actT, dueC, e0, e1, e2] <;> rfl) (by simp only [go_sem, AG, actT, dueC, e0, e1, e2, and_self] <;> trivial) (by simp only [go_sem, AG, actT, dueC, e0, e1, e2, and_self] <;> trivial) (by intro o; simp only [go_sem, AG, actT, dueC, e0, e1, e2, behind, and_self] <;> trivial) (by intro o; simp only [go_sem, AG, actT, dueC, e0, e1, e2] <;> rfl) (by simp only [go_sem, AG, actT, dueC, e0, e1, e2, behind]; exact Is.rfl') (by simp only [go_sem, AG, actT, dueC, e0, e1, e2, behind]; exact Is.rfl') ?_
      repeat (first | refine aops_op' rfl (by simp only [go_sem, AG, actT, dueC, e0, e1, e2]; exact ⟨rfl, rfl⟩) ?_ | refine g_run ?_ | refine g_off ?_ | refine aops_call' rfl (f3) (by simp only [go_sem, AG, actT, dueC, e0, e1, e2]; exact Is.rfl') (by simp only [go_sem, AG, actT, dueC, e0, e1, e2]; exact ⟨rfl, rfl⟩) ?_ | refine aops_nil (d_end ?_) | refine aops_nil ?_ | refine awp_seq ?_ | refine g_text ?_ | refine g_draw Tryd.mixed ?_ | refine awp_block ?_ | refine awp_skip ?_ | (refine awp_exit ?_; simp only [thenA, blockA, ↓reduceIte, Nat.reduceEqDiff, reduceCtorEq]) | refine awp_yes' (by simp only [go_sem, AG, actT, dueC, e0, e1, e2]; exact Is.rfl') ?_ | refine awp_no' (by simp only [go_sem, AG, actT, dueC, e0, e1, e2]; exact Is.rfl') ?_)
      (refine awp_ret ?_; (try simp only [thenA, blockA, ↓reduceIte, Nat.reduceEqDiff, reduceCtorEq]); refine retI_of ?_ ?_ <;> simp only [go_sem, AG, actT, dueC, e0, e1, e2, implies_true, and_self, imp_self, false_implies, AV.tuple.injEq, exists_eq_left', ne_eq])
    · have f3 := tells33_one ad mo 8 (by decide) (-1)
      refine ⟨Tryd.call19, _, _, Tryd.func19, rfl, (by intro _; rw [Tryd.ntmps19]; simp), ?_⟩
      intro vs esc hesc
      rw [Tryd.ntmps19, Tryd.results19]
      have e0 := hesc 1000 (by simp)
      have e1 := hesc 1001 (by simp)
      have e2 := hesc 1002 (by simp)
      repeat (first | refine aops_op' rfl (by simp only [go_sem, AG, actT, dueC, e0, e1, e2]; exact ⟨rfl, rfl⟩) ?_ | refine g_run ?_ | refine g_off ?_ | refine aops_call' rfl (f1) (by simp only [go_sem, AG, actT, dueC, e0, e1, e2]; exact Is.rfl') (by simp only [go_sem, AG, actT, dueC, e0, e1, e2]; exact ⟨rfl, rfl⟩) ?_ | refine aops_nil (d_end ?_) | refine aops_nil ?_ | refine awp_seq ?_ | refine g_text ?_ | refine g_draw Tryd.mixed ?_ | refine awp_block ?_ | refine awp_skip ?_ | (refine awp_exit ?_; simp only [thenA, blockA, ↓reduceIte, Nat.reduceEqDiff, reduceCtorEq]) | refine awp_yes' (by simp only [go_sem, AG, actT, dueC, e0, e1, e2]; exact Is.rfl') ?_ | refine awp_no' (by simp only [go_sem, AG, actT, dueC, e0, e1, e2]; exact Is.rfl') ?_)
      refine aops_inl [(1000, 1000), (1001, 1001), (1002, 1002)] rfl (f2) (by decide) (by decide) (by simp only [go_sem, AG, actT, dueC, e0, e1, e2] <;> rfl) (by simp only [go_sem, AG, actT, dueC, e0, e1, e2, and_self] <;> trivial) (by simp only [go_sem, AG, actT, dueC, e0, e1, e2, and_self] <;> trivial) (by intro o; simp only [go_sem, AG, actT, dueC, e0, e1, e2, behind, and_self] <;> trivial) (by intro o; simp only [go_sem, AG, actT, dueC, e0, e1, e2] <;> rfl) (by simp only [go_sem, AG, actT, dueC, e0, e1, e2, behind]; exact Is.rfl') (by simp only [go_sem, AG, actT, dueC, e0, e1, e2, behind]; exact Is.rfl') ?_
      repeat (first | refine aops_op' rfl (by simp only [go_sem, AG, actT, dueC, e0, e1, e2]; exact ⟨rfl, rfl⟩) ?_ | refine g_run ?_ | refine g_off ?_ | refine aops_call' rfl (f3) (by simp only [go_sem, AG, actT, dueC, e0, e1, e2]; exact Is.rfl') (by simp only [go_sem, AG, actT, dueC, e0, e1, e2]; exact ⟨rfl, rfl⟩) ?_ | refine aops_nil (d_end ?_) | refine aops_nil ?_ | refine awp_seq ?_ | refine g_text ?_ | refine g_draw Tryd.mixed ?_ | refine awp_block ?_ | refine awp_skip ?_ | (refine awp_exit ?_; simp only [thenA, blockA, ↓reduceIte, Nat.reduceEqDiff, reduceCtorEq]) | refine awp_yes' (by simp only [go_sem, AG, actT, dueC, e0, e1, e2]; exact Is.rfl') ?_ | refine awp_no' (by simp only [go_sem, AG, actT, dueC, e0, e1, e2]; exact Is.rfl') ?_)
      (refine awp_ret ?_; (try simp only [thenA, blockA, ↓reduceIte, Nat.reduceEqDiff, reduceCtorEq]); refine retI_of ?_ ?_ <;> simp only [go_sem, AG, actT, dueC, e0, e1, e2, implies_true, and_self, imp_self, false_implies, AV.tuple.injEq, exists_eq_left', ne_eq])
    · have f3 := tells33_two ad mo 1 (by decide) (-1) (-1)
      refine ⟨Tryd.call19, _, _, Tryd.func19, rfl, (by intro _; rw [Tryd.ntmps19]; simp), ?_⟩
      intro vs esc hesc
      rw [Tryd.ntmps19, Tryd.results19]
      have e0 := hesc 1000 (by simp)
      have e1 := hesc 1001 (by simp)
      have e2 := hesc 1002 (by simp)
      repeat (first | refine aops_op' rfl (by simp only [go_sem, AG, actT, dueC, e0, e1, e2]; exact ⟨rfl, rfl⟩) ?_ | refine g_run ?_ | refine g_off ?_ | refine aops_call' rfl (f1) (by simp only [go_sem, AG, actT, dueC, e0, e1, e2]; exact Is.rfl') (by simp only [go_sem, AG, actT, dueC, e0, e1, e2]; exact ⟨rfl, rfl⟩) ?_ | refine aops_nil (d_end ?_) | refine aops_nil ?_ | refine awp_seq ?_ | refine g_text ?_ | refine g_draw Tryd.mixed ?_ | refine awp_block ?_ | refine awp_skip ?_ | (refine awp_exit ?_; simp only [thenA, blockA, ↓reduceIte, Nat.reduceEqDiff, reduceCtorEq]) | refine awp_yes' (by simp only [go_sem, AG, actT, dueC, e0, e1, e2]; exact Is.rfl') ?_ | refine awp_no' (by simp only [go_sem, AG, actT, dueC, e0, e1, e2]; exact Is.rfl') ?_)
      refine aops_inl [(1000, 1000), (1001, 1001), (1002, 1002)] rfl (f2) (by decide) (by decide) (by simp only [go_sem, AG, actT, dueC, e0, e1, e2] <;> rfl) (by simp only [go_sem, AG, actT, dueC, e0, e1, e2, and_self] <;> trivial) (by simp only [go_sem, AG, actT, dueC, e0, e1, e2, and_self] <;> trivial) (by intro o; simp only [go_sem, AG, actT, dueC, e0, e1, e2, behind, and_self] <;> trivial) (by intro o; simp only [go_sem, AG, actT, dueC, e0, e1, e2] <;> rfl) (by simp only [go_sem, AG, actT, dueC, e0, e1, e2, behind]; exact Is.rfl') (by simp only [go_sem, AG, actT, dueC, e0, e1, e2, behind]; exact Is.rfl') ?_
      repeat (first | refine aops_op' rfl (by simp only [go_sem, AG, actT, dueC, e0, e1, e2]; exact ⟨rfl, rfl⟩) ?_ | refine g_run ?_ | refine g_off ?_ | refine aops_call' rfl (f3) (by simp only [go_sem, AG, actT, dueC, e0, e1, e2]; exact Is.rfl') (by simp only [go_sem, AG, actT, dueC, e0, e1, e2]; exact ⟨rfl, rfl⟩) ?_ | refine aops_nil (d_end ?_) | refine aops_nil ?_ | refine awp_seq ?_ | refine g_text ?_ | refine g_draw Tryd.mixed ?_ | refine awp_block ?_ | refine awp_skip ?_ | (refine awp_exit ?_; simp only [thenA, blockA, ↓reduceIte, Nat.reduceEqDiff, reduceCtorEq]) | refine awp_yes' (by simp only [go_sem, AG, actT, dueC, e0, e1, e2]; exact Is.rfl') ?_ | refine awp_no' (by simp only [go_sem, AG, actT, dueC, e0, e1, e2]; exact Is.rfl') ?_)
      (refine awp_ret ?_; (try simp only [thenA, blockA, ↓reduceIte, Nat.reduceEqDiff, reduceCtorEq]); refine retI_of ?_ ?_ <;> simp only [go_sem, AG, actT, dueC, e0, e1, e2, implies_true, and_self, imp_self, false_implies, AV.tuple.injEq, exists_eq_left', ne_eq])
  simp only [if_neg k0]
  have k0 : (kind == 0) = false := by simpa using k0
  by_cases k1 : kind = 1
  · simp only [if_pos k1]
    subst k1
    have f1 : Con Tryd.prog (errEnv ad mo) 41 [dues w, I d.inst, Sg d.name] (.tuple [dues (dropW w (keyD d)), B (decide ((dropW w (keyD d)).length < w.length))]) := rdrop_con (errEnv ad mo) w d.inst d.name hl
    have f2 : ConI Tryd.prog (errEnv ad mo) 23 [1000, 1001, 1002] (fun k => k == 1001) (fun g => [.loc 1000 (g 1000) 0 0, I d.inst, Sg d.name]) (fun g => AG g l M) (fun g => AG g (dropA ad l M (keyD d)).1.1 (dropA ad l M (keyD d)).1.2) (fun _ => (dropA ad l M (keyD d)).2) := tdrop_con ad mo d.inst d.name l M h.ok (by omega)
    obtain ⟨h1, h2⟩ := h.drop ad (keyD d)
    by_cases hlt : (dropW w (keyD d)).length < w.length
    · obtain ⟨_, hr⟩ := h1 hlt
      rw [hr] at f2
      rw [decide_eq_true hlt] at f1
      simp only [if_pos hlt]
      generalize dropA ad l M (keyD d) = p at *
      generalize dropW w (keyD d) = q at *
      refine ⟨Tryd.call19, _, _, Tryd.func19, rfl, (by intro _; rw [Tryd.ntmps19]; simp), ?_⟩
      intro vs esc hesc
      rw [Tryd.ntmps19, Tryd.results19]
      have e0 := hesc 1000 (by simp)
      have e1 := hesc 1001 (by simp)
      have e2 := hesc 1002 (by simp)
      repeat (first | refine aops_op' rfl (by simp only [go_sem, AG, actT, e0, e1, e2]; exact ⟨rfl, rfl⟩) ?_ | refine g_run ?_ | refine g_off ?_ | refine aops_call' rfl (f1) (by simp only [go_sem, AG, actT, e0, e1, e2]; exact Is.rfl') (by simp only [go_sem, AG, actT, e0, e1, e2]; exact ⟨rfl, rfl⟩) ?_ | refine aops_nil (d_end ?_) | refine aops_nil ?_ | refine awp_seq ?_ | refine g_text ?_ | refine g_draw Tryd.mixed ?_ | refine awp_block ?_ | refine awp_skip ?_ | (refine awp_exit ?_; simp only [thenA, blockA, ↓reduceIte, Nat.reduceEqDiff, reduceCtorEq]) | refine awp_yes' (by simp only [go_sem, AG, actT, e0, e1, e2]; exact Is.rfl') ?_ | refine awp_no' (by simp only [go_sem, AG, actT, e0, e1, e2]; exact Is.rfl') ?_)
      refine aops_inl [(1000, 1000), (1001, 1001), (1002, 1002)] rfl (f2) (by decide) (by decide) (by simp only [go_sem, AG, actT, e0, e1, e2] <;> rfl) (by simp only [go_sem, AG, actT, e0, e1, e2, and_self] <;> trivial) (by simp only [go_sem, AG, actT, e0, e1, e2, and_self] <;> trivial) (by intro o; simp only [go_sem, AG, actT, e0, e1, e2, behind, and_self] <;> trivial) (by intro o; simp only [go_sem, AG, actT, e0, e1, e2] <;> rfl) (by simp only [go_sem, AG, actT, e0, e1, e2, behind]; exact Is.rfl') (by simp only [go_sem, AG, actT, e0, e1, e2, behind]; exact Is.rfl') ?_
      repeat (first | refine aops_op' rfl (by simp only [go_sem, AG, actT, e0, e1, e2]; exact ⟨rfl, rfl⟩) ?_ | refine g_run ?_ | refine g_off ?_ | refine aops_nil (d_end ?_) | refine aops_nil ?_ | refine awp_seq ?_ | refine g_text ?_ | refine g_draw Tryd.mixed ?_ | refine awp_block ?_ | refine awp_skip ?_ | (refine awp_exit ?_; simp only [thenA, blockA, ↓reduceIte, Nat.reduceEqDiff, reduceCtorEq]) | refine awp_yes' (by simp only [go_sem, AG, actT, e0, e1, e2]; exact Is.rfl') ?_ | refine awp_no' (by simp only [go_sem, AG, actT, e0, e1, e2]; exact Is.rfl') ?_)
      (refine awp_ret ?_; (try simp only [thenA, blockA, ↓reduceIte, Nat.reduceEqDiff, reduceCtorEq]); refine retI_of ?_ ?_ <;> simp only [go_sem, AG, actT, e0, e1, e2, implies_true, and_self, imp_self, false_implies, AV.tuple.injEq, exists_eq_left', ne_eq])
    · rw [h2 hlt] at f2 ⊢
      rw [decide_eq_false hlt] at f1
      simp only [if_neg hlt] at f2 ⊢
      have f3 := tells33_one ad mo 4 (by decide) (-1)
      generalize dropW w (keyD d) = q at *
      refine ⟨Tryd.call19, _, _, Tryd.func19, rfl, (by intro _; rw [Tryd.ntmps19]; simp), ?_⟩
      intro vs esc hesc
      rw [Tryd.ntmps19, Tryd.results19]
      have e0 := hesc 1000 (by simp)
      have e1 := hesc 1001 (by simp)
      have e2 := hesc 1002 (by simp)
      repeat (first | refine aops_op' rfl (by simp only [go_sem, AG, actT, e0, e1, e2]; exact ⟨rfl, rfl⟩) ?_ | refine g_run ?_ | refine g_off ?_ | refine aops_call' rfl (f1) (by simp only [go_sem, AG, actT, e0, e1, e2]; exact Is.rfl') (by simp only [go_sem, AG, actT, e0, e1, e2]; exact ⟨rfl, rfl⟩) ?_ | refine aops_nil (d_end ?_) | refine aops_nil ?_ | refine awp_seq ?_ | refine g_text ?_ | refine g_draw Tryd.mixed ?_ | refine awp_block ?_ | refine awp_skip ?_ | (refine awp_exit ?_; simp only [thenA, blockA, ↓reduceIte, Nat.reduceEqDiff, reduceCtorEq]) | refine awp_yes' (by simp only [go_sem, AG, actT, e0, e1, e2]; exact Is.rfl') ?_ | refine awp_no' (by simp only [go_sem, AG, actT, e0, e1, e2]; exact Is.rfl') ?_)
      refine aops_inl [(1000, 1000), (1001, 1001), (1002, 1002)] rfl (f2) (by decide) (by decide) (by simp only [go_sem, AG, actT, e0, e1, e2] <;> rfl) (by simp only [go_sem, AG, actT, e0, e1, e2, and_self] <;> trivial) (by simp only [go_sem, AG, actT, e0, e1, e2, and_self] <;> trivial) (by intro o; simp only [go_sem, AG, actT, e0, e1, e2, behind, and_self] <;> trivial) (by intro o; simp only [go_sem, AG, actT, e0, e1, e2] <;> rfl) (by simp only [go_sem, AG, actT, e0, e1, e2, behind]; exact Is.rfl') (by simp only [go_sem, AG, actT, e0, e1, e2, behind]; exact Is.rfl') ?_
      repeat (first | refine aops_op' rfl (by simp only [go_sem, AG, actT, e0, e1, e2]; exact ⟨rfl, rfl⟩) ?_ | refine g_run ?_ | refine g_off ?_ | refine aops_call' rfl (f3) (by simp only [go_sem, AG, actT, e0, e1, e2]; exact Is.rfl') (by simp only [go_sem, AG, actT, e0, e1, e2]; exact ⟨rfl, rfl⟩) ?_ | refine aops_nil (d_end ?_) | refine aops_nil ?_ | refine awp_seq ?_ | refine g_text ?_ | refine g_draw Tryd.mixed ?_ | refine awp_block ?_ | refine awp_skip ?_ | (refine awp_exit ?_; simp only [thenA, blockA, ↓reduceIte, Nat.reduceEqDiff, reduceCtorEq]) | refine awp_yes' (by simp only [go_sem, AG, actT, e0, e1, e2]; exact Is.rfl') ?_ | refine awp_no' (by simp only [go_sem, AG, actT, e0, e1, e2]; exact Is.rfl') ?_)
      (refine awp_ret ?_; (try simp only [thenA, blockA, ↓reduceIte, Nat.reduceEqDiff, reduceCtorEq]); refine retI_of ?_ ?_ <;> simp only [go_sem, AG, actT, e0, e1, e2, implies_true, and_self, imp_self, false_implies, AV.tuple.injEq, exists_eq_left', ne_eq])
  simp only [if_neg k1]
  have k1 : (kind == 1) = false := by simpa using k1
  by_cases k2 : kind = 2
  · simp only [if_pos k2]
    subst k2
    have f1 := (rdropall_con (errEnv ad mo) w d.inst hl).seen
    obtain ⟨s1, s2⟩ := h.sortNd
    have f2 := tdropall_con (errEnv ad mo) d.inst l M h.ok (by omega) s1 s2
    rw [h.sort] at f2
    obtain ⟨_, hc⟩ := h.dropAll d.inst
    rw [hc] at f2
    have g1 : IntKind.i64.wrap ((w.length : Int) - ((dropAllW w d.inst).length : Int)) = (w.length : Int) - ((dropAllW w d.inst).length : Int) := wrap_in (by have := List.length_filter_le (fun e : Due => e.inst != d.inst) w; unfold dropAllW; omega) (by omega)
    generalize dropAllW w d.inst = q at *
    generalize daN w d.inst l M w.length = p at *
    refine ⟨Tryd.call19, _, _, Tryd.func19, rfl, (by intro _; rw [Tryd.ntmps19]; simp), ?_⟩
    intro vs esc hesc
    rw [Tryd.ntmps19, Tryd.results19]
    refine awp_clean 94 rfl ?_
    have e0 := hesc 1000 (by simp)
    have e1 := hesc 1001 (by simp)
    have e2 := hesc 1002 (by simp)
    repeat (first | refine aops_op' rfl (by simp only [go_sem, AG, actT, e0, e1, e2, g1]; exact ⟨rfl, rfl⟩) ?_ | refine g_run ?_ | refine g_off ?_ | refine aops_call' rfl (f1) (by simp only [go_sem, AG, actT, e0, e1, e2, g1]; exact Is.rfl') (by simp only [go_sem, AG, actT, e0, e1, e2, g1]; exact ⟨rfl, rfl⟩) ?_ | refine aops_nil (d_end ?_) | refine aops_nil ?_ | refine awp_seq ?_ | refine g_text ?_ | refine g_draw Tryd.mixed ?_ | refine awp_block ?_ | refine awp_skip ?_ | (refine awp_exit ?_; simp only [thenA, blockA, ↓reduceIte, Nat.reduceEqDiff, reduceCtorEq]) | refine awp_yes' (by simp only [go_sem, AG, actT, e0, e1, e2, g1]; exact Is.rfl') ?_ | refine awp_no' (by simp only [go_sem, AG, actT, e0, e1, e2, g1]; exact Is.rfl') ?_)
    refine aops_inl [(1000, 1000), (1001, 1001), (1002, 1002), (9, 94)] rfl (f2) (by decide) (by decide) (by simp only [go_sem, AG, actT, e0, e1, e2, g1] <;> rfl) (by simp only [go_sem, AG, actT, e0, e1, e2, g1, and_self] <;> trivial) (by simp only [go_sem, AG, actT, e0, e1, e2, g1, and_self] <;> trivial) (by intro o; simp only [go_sem, AG, actT, e0, e1, e2, g1, behind, and_self] <;> trivial) (by intro o; simp only [go_sem, AG, actT, e0, e1, e2, g1] <;> rfl) (by simp only [go_sem, AG, actT, e0, e1, e2, g1, behind]; exact Is.rfl') (by simp only [go_sem, AG, actT, e0, e1, e2, g1, behind]; exact Is.rfl') ?_
    repeat (first | refine aops_op' rfl (by simp only [go_sem, AG, actT, e0, e1, e2, g1]; exact ⟨rfl, rfl⟩) ?_ | refine g_run ?_ | refine g_off ?_ | refine aops_nil (d_end ?_) | refine aops_nil ?_ | refine awp_seq ?_ | refine g_text ?_ | refine g_draw Tryd.mixed ?_ | refine awp_block ?_ | refine awp_skip ?_ | (refine awp_exit ?_; simp only [thenA, blockA, ↓reduceIte, Nat.reduceEqDiff, reduceCtorEq]) | refine awp_yes' (by simp only [go_sem, AG, actT, e0, e1, e2, g1]; exact Is.rfl') ?_ | refine awp_no' (by simp only [go_sem, AG, actT, e0, e1, e2, g1]; exact Is.rfl') ?_)
    (refine awp_ret ?_; (try simp only [thenA, blockA, ↓reduceIte, Nat.reduceEqDiff, reduceCtorEq]); refine retI_of ?_ ?_ <;> simp only [go_sem, AG, actT, e0, e1, e2, g1, implies_true, and_self, imp_self, false_implies, AV.tuple.injEq, exists_eq_left', ne_eq])
  simp only [if_neg k2]
  have k2 : (kind == 2) = false := by simpa using k2
  have f1 := ttake_con ad mo d.at_ l M h.ok (by omega)
  unfold takeA at f1 ⊢
  cases hc : clockB d.at_ with
  | false =>
    simp only [hc, Bool.false_eq_true, if_false] at f1 ⊢
    have f2 := tells33_one ad mo 1 (by decide) (-1)
    rw [takeW_off hc]
    by_cases g1 : d.at_ < 0
    · refine ⟨Tryd.call19, _, _, Tryd.func19, rfl, (by intro _; rw [Tryd.ntmps19]; simp), ?_⟩
      intro vs esc hesc
      rw [Tryd.ntmps19, Tryd.results19]
      have e0 := hesc 1000 (by simp)
      have e1 := hesc 1001 (by simp)
      have e2 := hesc 1002 (by simp)
      repeat (first | refine aops_op' rfl (by simp only [go_sem, AG, actT, dueC, zeroD, e0, e1, e2, k0, k1, k2, g1]; exact ⟨rfl, rfl⟩) ?_ | refine g_run ?_ | refine g_off ?_ | refine aops_nil (d_end ?_) | refine aops_nil ?_ | refine awp_seq ?_ | refine g_text ?_ | refine g_draw Tryd.mixed ?_ | refine awp_block ?_ | refine awp_skip ?_ | (refine awp_exit ?_; simp only [thenA, blockA, ↓reduceIte, Nat.reduceEqDiff, reduceCtorEq]) | refine awp_yes' (by simp only [go_sem, AG, actT, dueC, zeroD, e0, e1, e2, k0, k1, k2, g1]; exact Is.rfl') ?_ | refine awp_no' (by simp only [go_sem, AG, actT, dueC, zeroD, e0, e1, e2, k0, k1, k2, g1]; exact Is.rfl') ?_)
      refine aops_inl [(1000, 1000), (1001, 1001), (1002, 1002)] rfl (f1) (by decide) (by decide) (by simp only [go_sem, AG, actT, dueC, zeroD, e0, e1, e2, k0, k1, k2, g1] <;> rfl) (by simp only [go_sem, AG, actT, dueC, zeroD, e0, e1, e2, k0, k1, k2, g1, and_self] <;> trivial) (by simp only [go_sem, AG, actT, dueC, zeroD, e0, e1, e2, k0, k1, k2, g1, and_self] <;> trivial) (by intro o; simp only [go_sem, AG, actT, dueC, zeroD, e0, e1, e2, k0, k1, k2, g1, behind, and_self] <;> trivial) (by intro o; simp only [go_sem, AG, actT, dueC, zeroD, e0, e1, e2, k0, k1, k2, g1] <;> rfl) (by simp only [go_sem, AG, actT, dueC, zeroD, e0, e1, e2, k0, k1, k2, g1, behind]; exact Is.rfl') (by simp only [go_sem, AG, actT, dueC, zeroD, e0, e1, e2, k0, k1, k2, g1, behind]; exact Is.rfl') ?_
      repeat (first | refine aops_op' rfl (by simp only [go_sem, AG, actT, dueC, zeroD, e0, e1, e2, k0, k1, k2, g1]; exact ⟨rfl, rfl⟩) ?_ | refine g_run ?_ | refine g_off ?_ | refine aops_call' rfl (f2) (by simp only [go_sem, AG, actT, dueC, zeroD, e0, e1, e2, k0, k1, k2, g1]; exact Is.rfl') (by simp only [go_sem, AG, actT, dueC, zeroD, e0, e1, e2, k0, k1, k2, g1]; exact ⟨rfl, rfl⟩) ?_ | refine aops_nil (d_end ?_) | refine aops_nil ?_ | refine awp_seq ?_ | refine g_text ?_ | refine g_draw Tryd.mixed ?_ | refine awp_block ?_ | refine awp_skip ?_ | (refine awp_exit ?_; simp only [thenA, blockA, ↓reduceIte, Nat.reduceEqDiff, reduceCtorEq]) | refine awp_yes' (by simp only [go_sem, AG, actT, dueC, zeroD, e0, e1, e2, k0, k1, k2, g1]; exact Is.rfl') ?_ | refine awp_no' (by simp only [go_sem, AG, actT, dueC, zeroD, e0, e1, e2, k0, k1, k2, g1]; exact Is.rfl') ?_)
      (refine awp_ret ?_; (try simp only [thenA, blockA, ↓reduceIte, Nat.reduceEqDiff, reduceCtorEq]); refine retI_of ?_ ?_ <;> simp only [go_sem, AG, actT, dueC, zeroD, e0, e1, e2, k0, k1, k2, g1, implies_true, and_self, imp_self, false_implies, AV.tuple.injEq, exists_eq_left', ne_eq])
    · have g2 : (1099511627776 : Int) < d.at_ := by
        unfold clockB at hc
        simp at hc
        omega
      refine ⟨Tryd.call19, _, _, Tryd.func19, rfl, (by intro _; rw [Tryd.ntmps19]; simp), ?_⟩
      intro vs esc hesc
      rw [Tryd.ntmps19, Tryd.results19]
      have e0 := hesc 1000 (by simp)
      have e1 := hesc 1001 (by simp)
      have e2 := hesc 1002 (by simp)
      repeat (first | refine aops_op' rfl (by simp only [go_sem, AG, actT, dueC, zeroD, e0, e1, e2, k0, k1, k2, g1, g2]; exact ⟨rfl, rfl⟩) ?_ | refine g_run ?_ | refine g_off ?_ | refine aops_nil (d_end ?_) | refine aops_nil ?_ | refine awp_seq ?_ | refine g_text ?_ | refine g_draw Tryd.mixed ?_ | refine awp_block ?_ | refine awp_skip ?_ | (refine awp_exit ?_; simp only [thenA, blockA, ↓reduceIte, Nat.reduceEqDiff, reduceCtorEq]) | refine awp_yes' (by simp only [go_sem, AG, actT, dueC, zeroD, e0, e1, e2, k0, k1, k2, g1, g2]; exact Is.rfl') ?_ | refine awp_no' (by simp only [go_sem, AG, actT, dueC, zeroD, e0, e1, e2, k0, k1, k2, g1, g2]; exact Is.rfl') ?_)
      refine aops_inl [(1000, 1000), (1001, 1001), (1002, 1002)] rfl (f1) (by decide) (by decide) (by simp only [go_sem, AG, actT, dueC, zeroD, e0, e1, e2, k0, k1, k2, g1, g2] <;> rfl) (by simp only [go_sem, AG, actT, dueC, zeroD, e0, e1, e2, k0, k1, k2, g1, g2, and_self] <;> trivial) (by simp only [go_sem, AG, actT, dueC, zeroD, e0, e1, e2, k0, k1, k2, g1, g2, and_self] <;> trivial) (by intro o; simp only [go_sem, AG, actT, dueC, zeroD, e0, e1, e2, k0, k1, k2, g1, g2, behind, and_self] <;> trivial) (by intro o; simp only [go_sem, AG, actT, dueC, zeroD, e0, e1, e2, k0, k1, k2, g1, g2] <;> rfl) (by simp only [go_sem, AG, actT, dueC, zeroD, e0, e1, e2, k0, k1, k2, g1, g2, behind]; exact Is.rfl') (by simp only [go_sem, AG, actT, dueC, zeroD, e0, e1, e2, k0, k1, k2, g1, g2, behind]; exact Is.rfl') ?_
      repeat (first | refine aops_op' rfl (by simp only [go_sem, AG, actT, dueC, zeroD, e0, e1, e2, k0, k1, k2, g1, g2]; exact ⟨rfl, rfl⟩) ?_ | refine g_run ?_ | refine g_off ?_ | refine aops_call' rfl (f2) (by simp only [go_sem, AG, actT, dueC, zeroD, e0, e1, e2, k0, k1, k2, g1, g2]; exact Is.rfl') (by simp only [go_sem, AG, actT, dueC, zeroD, e0, e1, e2, k0, k1, k2, g1, g2]; exact ⟨rfl, rfl⟩) ?_ | refine aops_nil (d_end ?_) | refine aops_nil ?_ | refine awp_seq ?_ | refine g_text ?_ | refine g_draw Tryd.mixed ?_ | refine awp_block ?_ | refine awp_skip ?_ | (refine awp_exit ?_; simp only [thenA, blockA, ↓reduceIte, Nat.reduceEqDiff, reduceCtorEq]) | refine awp_yes' (by simp only [go_sem, AG, actT, dueC, zeroD, e0, e1, e2, k0, k1, k2, g1, g2]; exact Is.rfl') ?_ | refine awp_no' (by simp only [go_sem, AG, actT, dueC, zeroD, e0, e1, e2, k0, k1, k2, g1, g2]; exact Is.rfl') ?_)
      (refine awp_ret ?_; (try simp only [thenA, blockA, ↓reduceIte, Nat.reduceEqDiff, reduceCtorEq]); refine retI_of ?_ ?_ <;> simp only [go_sem, AG, actT, dueC, zeroD, e0, e1, e2, k0, k1, k2, g1, g2, implies_true, and_self, imp_self, false_implies, AV.tuple.injEq, exists_eq_left', ne_eq])
  | true =>
    have g1 : ¬ d.at_ < 0 ∧ ¬ (1099511627776 : Int) < d.at_ := by
      unfold clockB at hc
      simp at hc
      omega
    obtain ⟨g1, g2⟩ := g1
    unfold takeW
    simp only [hc, if_true] at f1 ⊢
    cases w with
    | nil =>
      have hn := h.nil_iff.2 rfl
      subst hn
      simp only at f1 ⊢
      refine ⟨Tryd.call19, _, _, Tryd.func19, rfl, (by intro _; rw [Tryd.ntmps19]; simp), ?_⟩
      intro vs esc hesc
      rw [Tryd.ntmps19, Tryd.results19]
      have e0 := hesc 1000 (by simp)
      have e1 := hesc 1001 (by simp)
      have e2 := hesc 1002 (by simp)
      repeat (first | refine aops_op' rfl (by simp only [go_sem, AG, actT, dueC, zeroD, e0, e1, e2, k0, k1, k2, g1, g2]; exact ⟨rfl, rfl⟩) ?_ | refine g_run ?_ | refine g_off ?_ | refine aops_nil (d_end ?_) | refine aops_nil ?_ | refine awp_seq ?_ | refine g_text ?_ | refine g_draw Tryd.mixed ?_ | refine awp_block ?_ | refine awp_skip ?_ | (refine awp_exit ?_; simp only [thenA, blockA, ↓reduceIte, Nat.reduceEqDiff, reduceCtorEq]) | refine awp_yes' (by simp only [go_sem, AG, actT, dueC, zeroD, e0, e1, e2, k0, k1, k2, g1, g2]; exact Is.rfl') ?_ | refine awp_no' (by simp only [go_sem, AG, actT, dueC, zeroD, e0, e1, e2, k0, k1, k2, g1, g2]; exact Is.rfl') ?_)
      refine aops_inl [(1000, 1000), (1001, 1001), (1002, 1002)] rfl (f1) (by decide) (by decide) (by simp only [go_sem, AG, actT, dueC, zeroD, e0, e1, e2, k0, k1, k2, g1, g2] <;> rfl) (by simp only [go_sem, AG, actT, dueC, zeroD, e0, e1, e2, k0, k1, k2, g1, g2, and_self] <;> trivial) (by simp only [go_sem, AG, actT, dueC, zeroD, e0, e1, e2, k0, k1, k2, g1, g2, and_self] <;> trivial) (by intro o; simp only [go_sem, AG, actT, dueC, zeroD, e0, e1, e2, k0, k1, k2, g1, g2, behind, and_self] <;> trivial) (by intro o; simp only [go_sem, AG, actT, dueC, zeroD, e0, e1, e2, k0, k1, k2, g1, g2] <;> rfl) (by simp only [go_sem, AG, actT, dueC, zeroD, e0, e1, e2, k0, k1, k2, g1, g2, behind]; exact Is.rfl') (by simp only [go_sem, AG, actT, dueC, zeroD, e0, e1, e2, k0, k1, k2, g1, g2, behind]; exact Is.rfl') ?_
      repeat (first | refine aops_op' rfl (by simp only [go_sem, AG, actT, dueC, zeroD, e0, e1, e2, k0, k1, k2, g1, g2]; exact ⟨rfl, rfl⟩) ?_ | refine g_run ?_ | refine g_off ?_ | refine aops_nil (d_end ?_) | refine aops_nil ?_ | refine awp_seq ?_ | refine g_text ?_ | refine g_draw Tryd.mixed ?_ | refine awp_block ?_ | refine awp_skip ?_ | (refine awp_exit ?_; simp only [thenA, blockA, ↓reduceIte, Nat.reduceEqDiff, reduceCtorEq]) | refine awp_yes' (by simp only [go_sem, AG, actT, dueC, zeroD, e0, e1, e2, k0, k1, k2, g1, g2]; exact Is.rfl') ?_ | refine awp_no' (by simp only [go_sem, AG, actT, dueC, zeroD, e0, e1, e2, k0, k1, k2, g1, g2]; exact Is.rfl') ?_)
      (refine awp_ret ?_; (try simp only [thenA, blockA, ↓reduceIte, Nat.reduceEqDiff, reduceCtorEq]); refine retI_of ?_ ?_ <;> simp only [go_sem, AG, actT, dueC, zeroD, e0, e1, e2, k0, k1, k2, g1, g2, implies_true, and_self, imp_self, false_implies, AV.tuple.injEq, exists_eq_left', ne_eq])
    | cons y w =>
      cases l with
      | nil => exact absurd (h.nil_iff.1 rfl) (by simp)
      | cons y' l =>
        have hd := h.head
        subst hd
        simp only at f1 ⊢
        have g3 : (((w.length + 1 : Nat) : Int) == 0) = false := by simp; omega
        have g4 : (0 : Int) < ((w.length + 1 : Nat) : Int) := by omega
        by_cases ht : d.at_ < y'.at_
        · simp only [if_pos ht] at f1 ⊢
          refine ⟨Tryd.call19, _, _, Tryd.func19, rfl, (by intro _; rw [Tryd.ntmps19]; simp), ?_⟩
          intro vs esc hesc
          rw [Tryd.ntmps19, Tryd.results19]
          have e0 := hesc 1000 (by simp)
          have e1 := hesc 1001 (by simp)
          have e2 := hesc 1002 (by simp)
          repeat (first | refine aops_op' rfl (by simp only [go_sem, AG, actT, dueC, zeroD, e0, e1, e2, k0, k1, k2, g1, g2, g3, g4, ht]; exact ⟨rfl, rfl⟩) ?_ | refine g_run ?_ | refine g_off ?_ | refine aops_nil (d_end ?_) | refine aops_nil ?_ | refine awp_seq ?_ | refine g_text ?_ | refine g_draw Tryd.mixed ?_ | refine awp_block ?_ | refine awp_skip ?_ | (refine awp_exit ?_; simp only [thenA, blockA, ↓reduceIte, Nat.reduceEqDiff, reduceCtorEq]) | refine awp_yes' (by simp only [go_sem, AG, actT, dueC, zeroD, e0, e1, e2, k0, k1, k2, g1, g2, g3, g4, ht]; exact Is.rfl') ?_ | refine awp_no' (by simp only [go_sem, AG, actT, dueC, zeroD, e0, e1, e2, k0, k1, k2, g1, g2, g3, g4, ht]; exact Is.rfl') ?_)
          refine aops_inl [(1000, 1000), (1001, 1001), (1002, 1002)] rfl (f1) (by decide) (by decide) (by simp only [go_sem, AG, actT, dueC, zeroD, e0, e1, e2, k0, k1, k2, g1, g2, g3, g4, ht] <;> rfl) (by simp only [go_sem, AG, actT, dueC, zeroD, e0, e1, e2, k0, k1, k2, g1, g2, g3, g4, ht, and_self] <;> trivial) (by simp only [go_sem, AG, actT, dueC, zeroD, e0, e1, e2, k0, k1, k2, g1, g2, g3, g4, ht, and_self] <;> trivial) (by intro o; simp only [go_sem, AG, actT, dueC, zeroD, e0, e1, e2, k0, k1, k2, g1, g2, g3, g4, ht, behind, and_self] <;> trivial) (by intro o; simp only [go_sem, AG, actT, dueC, zeroD, e0, e1, e2, k0, k1, k2, g1, g2, g3, g4, ht] <;> rfl) (by simp only [go_sem, AG, actT, dueC, zeroD, e0, e1, e2, k0, k1, k2, g1, g2, g3, g4, ht, behind]; exact Is.rfl') (by simp only [go_sem, AG, actT, dueC, zeroD, e0, e1, e2, k0, k1, k2, g1, g2, g3, g4, ht, behind]; exact Is.rfl') ?_
          repeat (first | refine aops_op' rfl (by simp only [go_sem, AG, actT, dueC, zeroD, e0, e1, e2, k0, k1, k2, g1, g2, g3, g4, ht]; exact ⟨rfl, rfl⟩) ?_ | refine g_run ?_ | refine g_off ?_ | refine aops_nil (d_end ?_) | refine aops_nil ?_ | refine awp_seq ?_ | refine g_text ?_ | refine g_draw Tryd.mixed ?_ | refine awp_block ?_ | refine awp_skip ?_ | (refine awp_exit ?_; simp only [thenA, blockA, ↓reduceIte, Nat.reduceEqDiff, reduceCtorEq]) | refine awp_yes' (by simp only [go_sem, AG, actT, dueC, zeroD, e0, e1, e2, k0, k1, k2, g1, g2, g3, g4, ht]; exact Is.rfl') ?_ | refine awp_no' (by simp only [go_sem, AG, actT, dueC, zeroD, e0, e1, e2, k0, k1, k2, g1, g2, g3, g4, ht]; exact Is.rfl') ?_)
          (refine awp_ret ?_; (try simp only [thenA, blockA, ↓reduceIte, Nat.reduceEqDiff, reduceCtorEq]); refine retI_of ?_ ?_ <;> simp only [go_sem, AG, actT, dueC, zeroD, e0, e1, e2, k0, k1, k2, g1, g2, g3, g4, ht, implies_true, and_self, imp_self, false_implies, AV.tuple.injEq, exists_eq_left', ne_eq])
        · simp only [if_neg ht] at f1 ⊢
          generalize pullR (y' :: l) M 0 = p at *
          have g5 : (1 : Int) ≤ ((w.length + 1 : Nat) : Int) := by omega
          have g6 : 1 ≤ w.length + 1 := by omega
          refine ⟨Tryd.call19, _, _, Tryd.func19, rfl, (by intro _; rw [Tryd.ntmps19]; simp), ?_⟩
          intro vs esc hesc
          rw [Tryd.ntmps19, Tryd.results19]
          have e0 := hesc 1000 (by simp)
          have e1 := hesc 1001 (by simp)
          have e2 := hesc 1002 (by simp)
          repeat (first | refine aops_op' rfl (by simp only [go_sem, AG, actT, dueC, zeroD, e0, e1, e2, k0, k1, k2, g1, g2, g3, g4, g5, g6, Nat.add_sub_cancel, List.take_length, ht]; exact ⟨rfl, rfl⟩) ?_ | refine g_run ?_ | refine g_off ?_ | refine aops_nil (d_end ?_) | refine aops_nil ?_ | refine awp_seq ?_ | refine g_text ?_ | refine g_draw Tryd.mixed ?_ | refine awp_block ?_ | refine awp_skip ?_ | (refine awp_exit ?_; simp only [thenA, blockA, ↓reduceIte, Nat.reduceEqDiff, reduceCtorEq]) | refine awp_yes' (by simp only [go_sem, AG, actT, dueC, zeroD, e0, e1, e2, k0, k1, k2, g1, g2, g3, g4, g5, g6, Nat.add_sub_cancel, List.take_length, ht]; exact Is.rfl') ?_ | refine awp_no' (by simp only [go_sem, AG, actT, dueC, zeroD, e0, e1, e2, k0, k1, k2, g1, g2, g3, g4, g5, g6, Nat.add_sub_cancel, List.take_length, ht]; exact Is.rfl') ?_)
          refine aops_inl [(1000, 1000), (1001, 1001), (1002, 1002)] rfl (f1) (by decide) (by decide) (by simp only [go_sem, AG, actT, dueC, zeroD, e0, e1, e2, k0, k1, k2, g1, g2, g3, g4, g5, g6, Nat.add_sub_cancel, List.take_length, ht] <;> rfl) (by simp only [go_sem, AG, actT, dueC, zeroD, e0, e1, e2, k0, k1, k2, g1, g2, g3, g4, g5, g6, Nat.add_sub_cancel, List.take_length, ht, and_self] <;> trivial) (by simp only [go_sem, AG, actT, dueC, zeroD, e0, e1, e2, k0, k1, k2, g1, g2, g3, g4, g5, g6, Nat.add_sub_cancel, List.take_length, ht, and_self] <;> trivial) (by intro o; simp only [go_sem, AG, actT, dueC, zeroD, e0, e1, e2, k0, k1, k2, g1, g2, g3, g4, g5, g6, Nat.add_sub_cancel, List.take_length, ht, behind, and_self] <;> trivial) (by intro o; simp only [go_sem, AG, actT, dueC, zeroD, e0, e1, e2, k0, k1, k2, g1, g2, g3, g4, g5, g6, Nat.add_sub_cancel, List.take_length, ht] <;> rfl) (by simp only [go_sem, AG, actT, dueC, zeroD, e0, e1, e2, k0, k1, k2, g1, g2, g3, g4, g5, g6, Nat.add_sub_cancel, List.take_length, ht, behind]; exact Is.rfl') (by simp only [go_sem, AG, actT, dueC, zeroD, e0, e1, e2, k0, k1, k2, g1, g2, g3, g4, g5, g6, Nat.add_sub_cancel, List.take_length, ht, behind]; exact Is.rfl') ?_
          repeat (first | refine aops_op' rfl (by simp only [go_sem, AG, actT, dueC, zeroD, e0, e1, e2, k0, k1, k2, g1, g2, g3, g4, g5, g6, Nat.add_sub_cancel, List.take_length, ht]; exact ⟨rfl, rfl⟩) ?_ | refine g_run ?_ | refine g_off ?_ | refine aops_nil (d_end ?_) | refine aops_nil ?_ | refine awp_seq ?_ | refine g_text ?_ | refine g_draw Tryd.mixed ?_ | refine awp_block ?_ | refine awp_skip ?_ | (refine awp_exit ?_; simp only [thenA, blockA, ↓reduceIte, Nat.reduceEqDiff, reduceCtorEq]) | refine awp_yes' (by simp only [go_sem, AG, actT, dueC, zeroD, e0, e1, e2, k0, k1, k2, g1, g2, g3, g4, g5, g6, Nat.add_sub_cancel, List.take_length, ht]; exact Is.rfl') ?_ | refine awp_no' (by simp only [go_sem, AG, actT, dueC, zeroD, e0, e1, e2, k0, k1, k2, g1, g2, g3, g4, g5, g6, Nat.add_sub_cancel, List.take_length, ht]; exact Is.rfl') ?_)
          (refine awp_ret ?_; (try simp only [thenA, blockA, ↓reduceIte, Nat.reduceEqDiff, reduceCtorEq]); refine retI_of ?_ ?_ <;> simp only [go_sem, AG, actT, dueC, zeroD, e0, e1, e2, k0, k1, k2, g1, g2, g3, g4, g5, g6, Nat.add_sub_cancel, List.take_length, ht, implies_true, and_self, imp_self, false_implies, AV.tuple.injEq, exists_eq_left', ne_eq])
end Go.Proofs.YthepkabfiooabaaDoor
