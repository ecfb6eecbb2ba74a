/- The contract of scriniumref34.rest, by the walk without memory. -/
import Derived.Test.YtbleibmjippmpaaDoorCAB
import Derived.Test.YtbleibmjippmpaaDoorVC
set_option linter.unusedSimpArgs false
namespace Go.Proofs.YtbleibmjippmpaaDoor
open Go.RowKit
set_option maxRecDepth 100000
set_option maxHeartbeats 8000000
attribute [local go_sem] resRd resOne resAll HoldF HoldR Takes thenA blockA ev_move ev_assign ev_pick ev_alloc ev_box ev_build ev_buildSlice ev_load ev_store ev_binOp ev_unOp ev_convert ev_iface ev_make ev_slice ev_fieldAddr ev_field ev_indexAddr ev_index ev_extract ev_len ev_append ev_min ev_max evMin evMax gt_tmp gt_int gt_bool gt_str gt_nilS gt_nilP gt_nilI pickRd allocRd buildRd sliceRd loadRd unRd ifaceRd exRd val optRd callRd seen AV.plain adopt fzArgs Rd.run AV.asCells newBox runL Comes' Rd.row Rd.bind Out.app apps Eff.app St.renew St.setRow St.show St.put St.init upd evStore evBin eqFs eqCell evConv evSeq evLen evIndexAddr evFieldAddr evField evIndex bound evSlice evAppend evMake loadOf fillAV fillEs fzParts fz fzCell fzCells shows isConstOp splice wrs wes Value.oneCell' List.getD_cons_zero List.getD_cons_succ List.getD_nil List.length_cons List.length_nil List.map_cons List.map_nil List.nil_append List.cons_append List.all_cons List.all_nil List.getElem?_cons_zero List.getElem?_cons_succ List.set_cons_zero List.set_cons_succ List.take_succ_cons List.take_zero List.drop_succ_cons List.drop_zero List.take_nil List.drop_nil List.replicate_succ List.replicate_zero Bool.and_true Bool.true_and Bool.and_self and_self true_and and_true Nat.zero_add Nat.add_zero Option.some.injEq Nat.zero_lt_succ Bool.not_true Bool.not_false ne_eq not_true_eq_false not_false_eq_true Option.map_some Option.map_none List.toList_toArray head headF headR List.length_map Int.toNat_natCast Int.natCast_nonneg List.getElem?_map decide_true decide_false Bool.false_eq_true if_true if_false Bool.or_self Bool.or_true Bool.true_or Bool.false_or Bool.or_false Bool.and_false Bool.false_and List.flatten_cons List.flatten_nil List.append_nil nat0 or_self or_false false_or or_true true_or and_false false_and List.length_append List.isEmpty_nil bne_self_eq_false beq_self_eq_true fits_small strL_l bytesOf_map wants Int.cast_ofNat_Int gt_iff_lt ge_iff_le
attribute [local go_sem ←] List.map_drop List.map_take

abbrev nilS : AV := .lit (.slice none 0 0)
abbrev Found : Type := List Int × List (Int × List Int) × List (List UInt8 × Int) × Nat
def K3 (vs : List Int) (ms : List (Int × List Int)) : List (List UInt8 × Int) → Nat → Option Found := fun ts a => some (vs, ms, ts, a)
def K2 (b : List UInt8) (vs : List Int) : List (Int × List Int) → Nat → Option Found := fun ms a => (pnum b a 1).bind fun z => ptms b (K3 vs ms) z.1 z.2 []
def K1 (b : List UInt8) : List Int → Nat → Option Found := fun vs a => (pnum b a 1).bind fun y => pmems b (K2 b vs) y.1 y.2 []
/-- Variables, memories and timers behind a place. -/
def restO (b : List UInt8) (a : Option Nat) : Option Found := (takeO b a 1).bind fun x => pvars b (K1 b) x.1 x.2 []
def restAV (b : List UInt8) (ac : List Int) (over : Bool) : Option Found → AV
  | some (vs, ms, ts, a) => .tuple [.agg (bookC b (some a)), .agg [Il ac, Il vs, .seq 2 (ms.map memAV), .seq 2 (ts.map tmAV), B over]]
  | none => .tuple [.agg (bookC b none), .agg [.any, .any, .any, .any, .any]]
/-- A slice that grows: nil, or a row of the call's own. -/
def cellS {α : Type} (acc : List α) (r ver : Nat) : AV := match acc with
  | [] => nilS
  | _ => .row r ver
def rowS {α : Type} (acc : List α) (r : Nat) (row : Row) : List (Nat × Row) := match acc with
  | [] => []
  | _ => [(r, row)]
theorem pnum_le {b : List UInt8} {a w : Nat} {x : Nat × Nat} (h : pnum b a w = some x) : x.1 ≤ 4611686018427387904 ∧ x.2 = a + w ∧ x.2 ≤ b.length := by
  unfold pnum at h
  split at h
  · rename_i hh
    cases h
    exact ⟨hh.2, rfl, hh.1⟩
  · cases h
theorem takeO_le {b : List UInt8} {a : Option Nat} {w : Nat} {o : Option (Nat × Nat)} (h : takeO b a w = o) : numO o ≤ 4611686018427387904 := by
  subst h
  cases a with
  | none => exact Nat.zero_le _
  | some a =>
    show numO (pnum b a w) ≤ _
    cases hp : pnum b a w with
    | none => exact Nat.zero_le _
    | some x => exact (pnum_le hp).1
theorem takeO_lt {b : List UInt8} {a : Option Nat} {w : Nat} {o : Option (Nat × Nat)} (h : takeO b a w = o) : numO o < 256 ^ w := by
  subst h
  cases a with
  | none => exact Nat.pow_pos (by decide)
  | some a =>
    show numO (pnum b a w) < _
    unfold pnum
    split
    · rename_i hh
      have := valLE_lt (cut b a w)
      rw [cut_len b a w hh.1] at this
      exact this
    · exact Nat.pow_pos (by decide)
theorem takeO_in {b : List UInt8} {a : Option Nat} {w : Nat} {o : Option (Nat × Nat)} (h : takeO b a w = o) : ∀ x, o.map (·.2) = some x → x ≤ b.length := fun x hx => by
  subst h
  cases a with
  | none => cases hx
  | some a =>
    cases hp : pnum b a w with
    | none => rw [show takeO b (some a) w = pnum b a w from rfl, hp] at hx; cases hx
    | some y =>
      rw [show takeO b (some a) w = pnum b a w from rfl, hp] at hx
      cases hx
      exact (pnum_le hp).2.2
/-- Where a walk stands: what is still to come is all. -/
def Stands (T : Option Found) (pos : Option Nat) (len : Nat) (more : Nat → Option Found) : Prop := match pos with
  | some a => more a = T ∧ len ≤ a
  | none => T = none
theorem w_rest_con (env : Env) (b : List UInt8) (a0 : Option Nat) (ac : List Int) (over : Bool) (hb : b.length ≤ 1000000) (ha0 : ∀ x, a0 = some x → x ≤ b.length) :
    Con Tryd.prog env 86 [.agg (bookC b a0), .agg [Il ac, nilS, nilS, nilS, B over]] (restAV b ac over (restO b a0)) := by
  refine con_of_body_w Tryd.func86 rfl Tryd.call86 (by rw [Tryd.ntmps86]; simp) ?_
  rw [Tryd.ntmps86, Tryd.results86]
  obtain ⟨T, hT⟩ : ∃ T, restO b a0 = T := ⟨_, rfl⟩
  rw [hT]
  obtain ⟨o, ho⟩ : ∃ o, takeO b a0 1 = o := ⟨_, rfl⟩
  have ht := w_rtake_con env b a0 1 hb (fun x hx => by have := ha0 x hx; omega) (by decide)
  rw [ho] at ht
  have hn := takeO_le ho
  have hst : Stands T (o.map (·.2)) 0 (fun a => pvars b (K1 b) (numO o) a []) := by
    rw [restO, ho] at hT
    cases o with
    | none => exact hT.symm
    | some x => exact ⟨hT, Nat.zero_le _⟩
  have hps : ∀ x, o.map (·.2) = some x → x ≤ b.length := fun x hx => by
    cases o with
    | none => cases hx
    | some y =>
      cases hx
      cases a0 with
      | none => cases ho
      | some a => exact (pnum_le ho).2.2
  repeat (first | refine aops_op' rfl (by simp only [go_sem, reduceIte, reduceCtorEq, Nat.reduceAdd, Nat.reduceSub, Nat.reduceEqDiff, Nat.reduceLT, Nat.reduceLeDiff, Nat.reduceMul, ↓reduceIte, Int.reduceToNat, Int.reduceBEq, Int.reduceBNe, Int.reduceEq, Int.reduceLT, Int.reduceLE, bookC, resO]; exact ⟨rfl, rfl⟩) ?_ | refine g_run ?_ | refine g_off ?_ | refine aops_nil (d_end ?_) | refine aops_nil ?_ | refine awp_seq ?_ | refine g_text ?_ | refine g_draw Tryd.mixed ?_ | refine awp_block ?_ | refine awp_skip ?_ | (refine awp_exit ?_; simp only [thenA, blockA, ↓reduceIte, Nat.reduceEqDiff, reduceCtorEq]))
  refine aops_call' rfl (ht) (by simp only [go_sem, reduceIte, reduceCtorEq, Nat.reduceAdd, Nat.reduceSub, Nat.reduceEqDiff, Nat.reduceLT, Nat.reduceLeDiff, Nat.reduceMul, ↓reduceIte, Int.reduceToNat, Int.reduceBEq, Int.reduceBNe, Int.reduceEq, Int.reduceLT, Int.reduceLE, bookC, resO]; exact Is.rfl') (by simp only [go_sem, reduceIte, reduceCtorEq, Nat.reduceAdd, Nat.reduceSub, Nat.reduceEqDiff, Nat.reduceLT, Nat.reduceLeDiff, Nat.reduceMul, ↓reduceIte, Int.reduceToNat, Int.reduceBEq, Int.reduceBNe, Int.reduceEq, Int.reduceLT, Int.reduceLE, bookC, resO]; exact ⟨rfl, rfl⟩) ?_
  repeat (first | refine aops_op' rfl (by simp only [go_sem, reduceIte, reduceCtorEq, Nat.reduceAdd, Nat.reduceSub, Nat.reduceEqDiff, Nat.reduceLT, Nat.reduceLeDiff, Nat.reduceMul, ↓reduceIte, Int.reduceToNat, Int.reduceBEq, Int.reduceBNe, Int.reduceEq, Int.reduceLT, Int.reduceLE, bookC, resO]; exact ⟨rfl, rfl⟩) ?_ | refine g_run ?_ | refine g_off ?_ | refine aops_nil (d_end ?_) | refine aops_nil ?_ | refine awp_seq ?_ | refine g_text ?_ | refine g_draw Tryd.mixed ?_ | refine awp_block ?_ | refine awp_skip ?_ | (refine awp_exit ?_; simp only [thenA, blockA, ↓reduceIte, Nat.reduceEqDiff, reduceCtorEq]))
  generalize numO o = n at *
  obtain ⟨p0, hp0⟩ : ∃ p, o.map (·.2) = p := ⟨_, rfl⟩
  rw [hp0] at hst hps ⊢
  clear ht ho hT hp0 o
  refine awp_loop_mid (D := List Int × Option Nat) (fun _ vs => [(2, .loc 2 (vs 2) 0 0), (3, .loc 3 (vs 3) 0 0), (4, .loc 4 (vs 4) 0 0), (5, .loc 5 (vs 5) 0 0)])
    (fun d vs => [(2, ⟨2, [bookC b d.2], 141, false⟩), (3, ⟨5, [[Il ac, cellS d.1 41 (vs 41), nilS, nilS, B over]], 50, false⟩), (4, ⟨2, [[nilS, I 0]], 141, false⟩), (5, ⟨5, [[nilS, nilS, nilS, nilS, B false]], 50, false⟩)] ++ rowS d.1 41 ⟨1, d.1.map iAV, 3, true⟩)
    (fun d _ esc => Stands T d.2 0 (fun a => K1 b d.1 a) ∧ (∀ x, d.2 = some x → x ≤ b.length) ∧ esc 2 = false ∧ esc 3 = false ∧ esc 4 = false ∧ esc 5 = false) ?_ ?_
  rotate_left
  · rintro ⟨acc, pos⟩ vs esc ⟨hs, hps, e2, e3, e4, e5⟩
    simp only at hs hps
    obtain ⟨o, ho⟩ : ∃ o, takeO b pos 1 = o := ⟨_, rfl⟩
    have ht := w_rtake_con env b pos 1 hb (fun x hx => by have := hps x hx; omega) (by decide)
    rw [ho] at ht
    have hn := takeO_le ho
    have hin := takeO_in ho
    have hst : Stands T (o.map (·.2)) 0 (fun a => pmems b (K2 b acc) (numO o) a []) := by
      cases pos with
      | none =>
        rw [← ho]
        exact hs
      | some a =>
        have h1 : K1 b acc a = T := hs.1
        rw [K1, show pnum b a 1 = o from ho] at h1
        cases o with
        | none => exact h1.symm
        | some x => exact ⟨h1, Nat.zero_le _⟩
    unfold resO at ht
    repeat (first | refine aops_op' rfl (by simp only [go_sem, reduceIte, reduceCtorEq, Nat.reduceAdd, Nat.reduceSub, Nat.reduceEqDiff, Nat.reduceLT, Nat.reduceLeDiff, Nat.reduceMul, ↓reduceIte, Int.reduceToNat, Int.reduceBEq, Int.reduceBNe, Int.reduceEq, Int.reduceLT, Int.reduceLE, bookC, e2, e3, e4, e5]; exact ⟨rfl, rfl⟩) ?_ | refine g_run ?_ | refine g_off ?_ | refine aops_nil (d_end ?_) | refine aops_nil ?_ | refine awp_seq ?_ | refine g_text ?_ | refine g_draw Tryd.mixed ?_ | refine awp_block ?_ | refine awp_skip ?_ | (refine awp_exit ?_; simp only [thenA, blockA, ↓reduceIte, Nat.reduceEqDiff, reduceCtorEq]))
    refine aops_call' rfl (ht) (by simp only [go_sem, reduceIte, reduceCtorEq, Nat.reduceAdd, Nat.reduceSub, Nat.reduceEqDiff, Nat.reduceLT, Nat.reduceLeDiff, Nat.reduceMul, ↓reduceIte, Int.reduceToNat, Int.reduceBEq, Int.reduceBNe, Int.reduceEq, Int.reduceLT, Int.reduceLE, bookC, e2, e3, e4, e5]; exact Is.rfl') (by simp only [go_sem, reduceIte, reduceCtorEq, Nat.reduceAdd, Nat.reduceSub, Nat.reduceEqDiff, Nat.reduceLT, Nat.reduceLeDiff, Nat.reduceMul, ↓reduceIte, Int.reduceToNat, Int.reduceBEq, Int.reduceBNe, Int.reduceEq, Int.reduceLT, Int.reduceLE, bookC, e2, e3, e4, e5]; exact ⟨rfl, rfl⟩) ?_
    repeat (first | refine aops_op' rfl (by simp only [go_sem, reduceIte, reduceCtorEq, Nat.reduceAdd, Nat.reduceSub, Nat.reduceEqDiff, Nat.reduceLT, Nat.reduceLeDiff, Nat.reduceMul, ↓reduceIte, Int.reduceToNat, Int.reduceBEq, Int.reduceBNe, Int.reduceEq, Int.reduceLT, Int.reduceLE, bookC, e2, e3, e4, e5]; exact ⟨rfl, rfl⟩) ?_ | refine g_run ?_ | refine g_off ?_ | refine aops_nil (d_end ?_) | refine aops_nil ?_ | refine awp_seq ?_ | refine g_text ?_ | refine g_draw Tryd.mixed ?_ | refine awp_block ?_ | refine awp_skip ?_ | (refine awp_exit ?_; simp only [thenA, blockA, ↓reduceIte, Nat.reduceEqDiff, reduceCtorEq]))
    generalize numO o = n at *
    obtain ⟨p1, hp1⟩ : ∃ p, o.map (·.2) = p := ⟨_, rfl⟩
    rw [hp1] at hst hin ⊢
    clear ht ho hp1 o hs hps
    refine awp_loop_mid (D := List (Int × List Int) × Option Nat) (fun _ vs => [(2, .loc 2 (vs 2) 0 0), (3, .loc 3 (vs 3) 0 0), (4, .loc 4 (vs 4) 0 0), (5, .loc 5 (vs 5) 0 0)])
      (fun d vs => [(2, ⟨2, [bookC b d.2], 141, false⟩), (3, ⟨5, [[Il ac, cellS acc 41 (vs 41), cellS d.1 77 (vs 77), nilS, B over]], 50, false⟩), (4, ⟨2, [[nilS, I 0]], 141, false⟩), (5, ⟨5, [[nilS, nilS, nilS, nilS, B false]], 50, false⟩)] ++ rowS d.1 77 ⟨2, d.1.map memAV, 81, true⟩ ++ rowS acc 41 ⟨1, acc.map iAV, 3, true⟩)
      (fun d _ esc => Stands T d.2 0 (fun a => K2 b acc d.1 a) ∧ (∀ x, d.2 = some x → x ≤ b.length) ∧ esc 2 = false ∧ esc 3 = false ∧ esc 4 = false ∧ esc 5 = false) ?_ ?_
    rotate_left
    · rintro ⟨ms, pos⟩ vs esc ⟨hs, hps, e2, e3, e4, e5⟩
      simp only at hs hps
      obtain ⟨o, ho⟩ : ∃ o, takeO b pos 1 = o := ⟨_, rfl⟩
      have ht := w_rtake_con env b pos 1 hb (fun x hx => by have := hps x hx; omega) (by decide)
      rw [ho] at ht
      have hn := takeO_le ho
      have hin := takeO_in ho
      have hst : Stands T (o.map (·.2)) 0 (fun a => ptms b (K3 acc ms) (numO o) a []) := by
        cases pos with
        | none =>
          rw [← ho]
          exact hs
        | some a =>
          have h1 : K2 b acc ms a = T := hs.1
          rw [K2, show pnum b a 1 = o from ho] at h1
          cases o with
          | none => exact h1.symm
          | some x => exact ⟨h1, Nat.zero_le _⟩
      unfold resO at ht
      repeat (first | refine aops_op' rfl (by simp only [go_sem, reduceIte, reduceCtorEq, Nat.reduceAdd, Nat.reduceSub, Nat.reduceEqDiff, Nat.reduceLT, Nat.reduceLeDiff, Nat.reduceMul, ↓reduceIte, Int.reduceToNat, Int.reduceBEq, Int.reduceBNe, Int.reduceEq, Int.reduceLT, Int.reduceLE, bookC, e2, e3, e4, e5]; exact ⟨rfl, rfl⟩) ?_ | refine g_run ?_ | refine g_off ?_ | refine aops_nil (d_end ?_) | refine aops_nil ?_ | refine awp_seq ?_ | refine g_text ?_ | refine g_draw Tryd.mixed ?_ | refine awp_block ?_ | refine awp_skip ?_ | (refine awp_exit ?_; simp only [thenA, blockA, ↓reduceIte, Nat.reduceEqDiff, reduceCtorEq]))
      refine aops_call' rfl (ht) (by simp only [go_sem, reduceIte, reduceCtorEq, Nat.reduceAdd, Nat.reduceSub, Nat.reduceEqDiff, Nat.reduceLT, Nat.reduceLeDiff, Nat.reduceMul, ↓reduceIte, Int.reduceToNat, Int.reduceBEq, Int.reduceBNe, Int.reduceEq, Int.reduceLT, Int.reduceLE, bookC, e2, e3, e4, e5]; exact Is.rfl') (by simp only [go_sem, reduceIte, reduceCtorEq, Nat.reduceAdd, Nat.reduceSub, Nat.reduceEqDiff, Nat.reduceLT, Nat.reduceLeDiff, Nat.reduceMul, ↓reduceIte, Int.reduceToNat, Int.reduceBEq, Int.reduceBNe, Int.reduceEq, Int.reduceLT, Int.reduceLE, bookC, e2, e3, e4, e5]; exact ⟨rfl, rfl⟩) ?_
      repeat (first | refine aops_op' rfl (by simp only [go_sem, reduceIte, reduceCtorEq, Nat.reduceAdd, Nat.reduceSub, Nat.reduceEqDiff, Nat.reduceLT, Nat.reduceLeDiff, Nat.reduceMul, ↓reduceIte, Int.reduceToNat, Int.reduceBEq, Int.reduceBNe, Int.reduceEq, Int.reduceLT, Int.reduceLE, bookC, e2, e3, e4, e5]; exact ⟨rfl, rfl⟩) ?_ | refine g_run ?_ | refine g_off ?_ | refine aops_nil (d_end ?_) | refine aops_nil ?_ | refine awp_seq ?_ | refine g_text ?_ | refine g_draw Tryd.mixed ?_ | refine awp_block ?_ | refine awp_skip ?_ | (refine awp_exit ?_; simp only [thenA, blockA, ↓reduceIte, Nat.reduceEqDiff, reduceCtorEq]))
      generalize numO o = n at *
      obtain ⟨p1, hp1⟩ : ∃ p, o.map (·.2) = p := ⟨_, rfl⟩
      rw [hp1] at hst hin ⊢
      clear ht ho hp1 o hs hps
      refine awp_loop_mid (D := List (List UInt8 × Int) × Option Nat) (fun _ vs => [(2, .loc 2 (vs 2) 0 0), (3, .loc 3 (vs 3) 0 0), (4, .loc 4 (vs 4) 0 0), (5, .loc 5 (vs 5) 0 0)])
        (fun d vs => [(2, ⟨2, [bookC b d.2], 141, false⟩), (3, ⟨5, [[Il ac, cellS acc 41 (vs 41), cellS ms 77 (vs 77), cellS d.1 124 (vs 124), B over]], 50, false⟩), (4, ⟨2, [[nilS, I 0]], 141, false⟩), (5, ⟨5, [[nilS, nilS, nilS, nilS, B false]], 50, false⟩)] ++ rowS d.1 124 ⟨2, d.1.map tmAV, 131, true⟩ ++ rowS ms 77 ⟨2, ms.map memAV, 81, true⟩ ++ rowS acc 41 ⟨1, acc.map iAV, 3, true⟩)
        (fun d _ esc => Stands T d.2 0 (fun a => K3 acc ms d.1 a) ∧ (∀ x, d.2 = some x → x ≤ b.length) ∧ esc 2 = false ∧ esc 3 = false ∧ esc 4 = false ∧ esc 5 = false) ?_ ?_
      rotate_left
      · clear e2 e3 e4 e5
        rintro ⟨ts, pos⟩ vs esc ⟨hs, hps, e2, e3, e4, e5⟩
        simp only at hs hps
        cases pos with
        | none =>
          have hs : T = none := hs
          rw [hs]
          cases acc <;> cases ms <;> cases ts <;>
          (
            simp only [rowS, cellS]
            repeat (first | refine aops_op' rfl (by simp only [go_sem, reduceIte, reduceCtorEq, Nat.reduceAdd, Nat.reduceSub, Nat.reduceEqDiff, Nat.reduceLT, Nat.reduceLeDiff, Nat.reduceMul, ↓reduceIte, Int.reduceToNat, Int.reduceBEq, Int.reduceBNe, Int.reduceEq, Int.reduceLT, Int.reduceLE, bookC, atI, e2, e3, e4, e5]; exact ⟨rfl, rfl⟩) ?_ | refine g_run ?_ | refine g_off ?_ | refine aops_nil (d_end ?_) | refine aops_nil ?_ | refine awp_seq ?_ | refine g_text ?_ | refine g_draw Tryd.mixed ?_ | refine awp_block ?_ | refine awp_skip ?_ | (refine awp_exit ?_; simp only [thenA, blockA, ↓reduceIte, Nat.reduceEqDiff, reduceCtorEq]))
            (refine awp_ret ?_; refine ⟨_, (by show (resRd _ _ _).run _ = some _; simp only [go_sem, reduceIte, reduceCtorEq, Nat.reduceAdd, Nat.reduceSub, Nat.reduceEqDiff, Nat.reduceLT, Nat.reduceLeDiff, Nat.reduceMul, ↓reduceIte, Int.reduceToNat, Int.reduceBEq, Int.reduceBNe, Int.reduceEq, Int.reduceLT, Int.reduceLE, bookC, atI, e2, e3, e4, e5]; rfl), ?_⟩)
            exact .tuple (.cons (.refl _) (.cons (.agg (.cons (.any _) (.cons (.any _) (.cons (.any _) (.cons (.any _) (.cons (.any _) .nil)))))) .nil)))
        | some a =>
          have hs : some (acc, ms, ts, a) = T := hs.1
          rw [← hs]
          cases acc <;> cases ms <;> cases ts <;>
          (
            simp only [rowS, cellS]
            repeat (first | refine aops_op' rfl (by simp only [go_sem, reduceIte, reduceCtorEq, Nat.reduceAdd, Nat.reduceSub, Nat.reduceEqDiff, Nat.reduceLT, Nat.reduceLeDiff, Nat.reduceMul, ↓reduceIte, Int.reduceToNat, Int.reduceBEq, Int.reduceBNe, Int.reduceEq, Int.reduceLT, Int.reduceLE, bookC, atI, e2, e3, e4, e5]; exact ⟨rfl, rfl⟩) ?_ | refine g_run ?_ | refine g_off ?_ | refine aops_nil (d_end ?_) | refine aops_nil ?_ | refine awp_seq ?_ | refine g_text ?_ | refine g_draw Tryd.mixed ?_ | refine awp_block ?_ | refine awp_skip ?_ | (refine awp_exit ?_; simp only [thenA, blockA, ↓reduceIte, Nat.reduceEqDiff, reduceCtorEq]))
            (refine awp_ret ?_; refine ⟨_, (by show (resRd _ _ _).run _ = some _; simp only [go_sem, reduceIte, reduceCtorEq, Nat.reduceAdd, Nat.reduceSub, Nat.reduceEqDiff, Nat.reduceLT, Nat.reduceLeDiff, Nat.reduceMul, ↓reduceIte, Int.reduceToNat, Int.reduceBEq, Int.reduceBNe, Int.reduceEq, Int.reduceLT, Int.reduceLE, bookC, atI, e2, e3, e4, e5]; rfl), ?_⟩)
            exact .tuple (.cons (.refl _) (.cons (.agg (.cons (.refl _) (.cons (by first | exact .refl _ | exact .nil _) (.cons (by first | exact .refl _ | exact .nil _) (.cons (by first | exact .refl _ | exact .nil _) (.cons (.refl _) .nil)))))) .nil)))
      refine awp_loopH (D := Nat × List (List UInt8 × Int) × Option Nat) (fun d vs => [(2, .loc 2 (vs 2) 0 0), (3, .loc 3 (vs 3) 0 0), (4, .loc 4 (vs 4) 0 0), (5, .loc 5 (vs 5) 0 0), (6, I n), (11, I d.1)])
        (fun d vs => [(2, ⟨2, [bookC b d.2.2], 141, false⟩), (3, ⟨5, [[Il ac, cellS acc 41 (vs 41), cellS ms 77 (vs 77), cellS d.2.1 124 (vs 124), B over]], 50, false⟩), (4, ⟨2, [[nilS, I 0]], 141, false⟩), (5, ⟨5, [[nilS, nilS, nilS, nilS, B false]], 50, false⟩)] ++ rowS d.2.1 124 ⟨2, d.2.1.map tmAV, 131, true⟩ ++ rowS ms 77 ⟨2, ms.map memAV, 81, true⟩ ++ rowS acc 41 ⟨1, acc.map iAV, 3, true⟩)
        (fun d _ esc => d.1 ≤ n ∧ Stands T d.2.2 d.2.1.length (fun a => ptms b (K3 acc ms) (n - d.1) a d.2.1) ∧ (∀ x, d.2.2 = some x → x ≤ b.length) ∧ esc 2 = false ∧ esc 3 = false ∧ esc 4 = false ∧ esc 5 = false) (fun d => n - d.1) (0, [], p1) ?_ ?_ ?_ ?_
      · exact ⟨Nat.zero_le _, hst, hin, by simp only [go_sem, reduceIte, reduceCtorEq, Nat.reduceAdd, Nat.reduceSub, Nat.reduceEqDiff, Nat.reduceLT, Nat.reduceLeDiff, Nat.reduceMul, ↓reduceIte, Int.reduceToNat, Int.reduceBEq, Int.reduceBNe, Int.reduceEq, Int.reduceLT, Int.reduceLE, e2], by simp only [go_sem, reduceIte, reduceCtorEq, Nat.reduceAdd, Nat.reduceSub, Nat.reduceEqDiff, Nat.reduceLT, Nat.reduceLeDiff, Nat.reduceMul, ↓reduceIte, Int.reduceToNat, Int.reduceBEq, Int.reduceBNe, Int.reduceEq, Int.reduceLT, Int.reduceLE, e3], by simp only [go_sem, reduceIte, reduceCtorEq, Nat.reduceAdd, Nat.reduceSub, Nat.reduceEqDiff, Nat.reduceLT, Nat.reduceLeDiff, Nat.reduceMul, ↓reduceIte, Int.reduceToNat, Int.reduceBEq, Int.reduceBNe, Int.reduceEq, Int.reduceLT, Int.reduceLE, e4], by simp only [go_sem, reduceIte, reduceCtorEq, Nat.reduceAdd, Nat.reduceSub, Nat.reduceEqDiff, Nat.reduceLT, Nat.reduceLeDiff, Nat.reduceMul, ↓reduceIte, Int.reduceToNat, Int.reduceBEq, Int.reduceBNe, Int.reduceEq, Int.reduceLT, Int.reduceLE, e5]⟩
      · (simp only [go_sem, reduceIte, reduceCtorEq, Nat.reduceAdd, Nat.reduceSub, Nat.reduceEqDiff, Nat.reduceLT, Nat.reduceLeDiff, Nat.reduceMul, ↓reduceIte, Int.reduceToNat, Int.reduceBEq, Int.reduceBNe, Int.reduceEq, Int.reduceLT, Int.reduceLE, bookC, resO])
      · cases acc <;> cases ms <;> (simp only [rowS, cellS]; (simp only [go_sem, reduceIte, reduceCtorEq, Nat.reduceAdd, Nat.reduceSub, Nat.reduceEqDiff, Nat.reduceLT, Nat.reduceLeDiff, Nat.reduceMul, ↓reduceIte, Int.reduceToNat, Int.reduceBEq, Int.reduceBNe, Int.reduceEq, Int.reduceLT, Int.reduceLE, bookC, resO]))
      clear e2 e3 e4 e5
      rintro ⟨i, ts, pos⟩ vs esc ⟨hi, hs, hps, e2, e3, e4, e5⟩
      simp only at hi hs hps
      cases pos with
      | none =>
        by_cases hlt : i < n
        · have k1 := nlt hlt
          repeat (first | refine aops_op' rfl (by simp only [go_sem, reduceIte, reduceCtorEq, Nat.reduceAdd, Nat.reduceSub, Nat.reduceEqDiff, Nat.reduceLT, Nat.reduceLeDiff, Nat.reduceMul, ↓reduceIte, Int.reduceToNat, Int.reduceBEq, Int.reduceBNe, Int.reduceEq, Int.reduceLT, Int.reduceLE, bookC, resO, atI, k1]; exact ⟨rfl, rfl⟩) ?_ | refine g_run ?_ | refine g_off ?_ | refine aops_nil (d_end ?_) | refine aops_nil ?_ | refine awp_seq ?_ | refine g_text ?_ | refine g_draw Tryd.mixed ?_ | refine awp_block ?_ | refine awp_skip ?_ | (refine awp_exit ?_; simp only [thenA, blockA, ↓reduceIte, Nat.reduceEqDiff, reduceCtorEq]))
          refine awp_no' (by simp only [go_sem, reduceIte, reduceCtorEq, Nat.reduceAdd, Nat.reduceSub, Nat.reduceEqDiff, Nat.reduceLT, Nat.reduceLeDiff, Nat.reduceMul, ↓reduceIte, Int.reduceToNat, Int.reduceBEq, Int.reduceBNe, Int.reduceEq, Int.reduceLT, Int.reduceLE, bookC, resO, atI, k1]; exact Is.rfl') ?_
          repeat (first | refine aops_op' rfl (by simp only [go_sem, reduceIte, reduceCtorEq, Nat.reduceAdd, Nat.reduceSub, Nat.reduceEqDiff, Nat.reduceLT, Nat.reduceLeDiff, Nat.reduceMul, ↓reduceIte, Int.reduceToNat, Int.reduceBEq, Int.reduceBNe, Int.reduceEq, Int.reduceLT, Int.reduceLE, bookC, resO, atI, k1]; exact ⟨rfl, rfl⟩) ?_ | refine g_run ?_ | refine g_off ?_ | refine aops_nil (d_end ?_) | refine aops_nil ?_ | refine awp_seq ?_ | refine g_text ?_ | refine g_draw Tryd.mixed ?_ | refine awp_block ?_ | refine awp_skip ?_ | (refine awp_exit ?_; simp only [thenA, blockA, ↓reduceIte, Nat.reduceEqDiff, reduceCtorEq]))
          refine ⟨(ts, none), ⟨hs, hps, e2, e3, e4, e5⟩, ?_, ?_⟩
          · (simp only [go_sem, reduceIte, reduceCtorEq, Nat.reduceAdd, Nat.reduceSub, Nat.reduceEqDiff, Nat.reduceLT, Nat.reduceLeDiff, Nat.reduceMul, ↓reduceIte, Int.reduceToNat, Int.reduceBEq, Int.reduceBNe, Int.reduceEq, Int.reduceLT, Int.reduceLE, bookC, resO, atI, k1])
          · cases acc <;> cases ms <;> cases ts <;> (simp only [rowS, cellS]; (simp only [go_sem, reduceIte, reduceCtorEq, Nat.reduceAdd, Nat.reduceSub, Nat.reduceEqDiff, Nat.reduceLT, Nat.reduceLeDiff, Nat.reduceMul, ↓reduceIte, Int.reduceToNat, Int.reduceBEq, Int.reduceBNe, Int.reduceEq, Int.reduceLT, Int.reduceLE, bookC, resO, atI, k1]))
        · have k1 : ¬ (i : Int) < (n : Int) := by omega
          repeat (first | refine aops_op' rfl (by simp only [go_sem, reduceIte, reduceCtorEq, Nat.reduceAdd, Nat.reduceSub, Nat.reduceEqDiff, Nat.reduceLT, Nat.reduceLeDiff, Nat.reduceMul, ↓reduceIte, Int.reduceToNat, Int.reduceBEq, Int.reduceBNe, Int.reduceEq, Int.reduceLT, Int.reduceLE, bookC, resO, atI, k1]; exact ⟨rfl, rfl⟩) ?_ | refine g_run ?_ | refine g_off ?_ | refine aops_nil (d_end ?_) | refine aops_nil ?_ | refine awp_seq ?_ | refine g_text ?_ | refine g_draw Tryd.mixed ?_ | refine awp_block ?_ | refine awp_skip ?_ | (refine awp_exit ?_; simp only [thenA, blockA, ↓reduceIte, Nat.reduceEqDiff, reduceCtorEq]))
          refine awp_no' (by simp only [go_sem, reduceIte, reduceCtorEq, Nat.reduceAdd, Nat.reduceSub, Nat.reduceEqDiff, Nat.reduceLT, Nat.reduceLeDiff, Nat.reduceMul, ↓reduceIte, Int.reduceToNat, Int.reduceBEq, Int.reduceBNe, Int.reduceEq, Int.reduceLT, Int.reduceLE, bookC, resO, atI, k1]; exact Is.rfl') ?_
          repeat (first | refine aops_op' rfl (by simp only [go_sem, reduceIte, reduceCtorEq, Nat.reduceAdd, Nat.reduceSub, Nat.reduceEqDiff, Nat.reduceLT, Nat.reduceLeDiff, Nat.reduceMul, ↓reduceIte, Int.reduceToNat, Int.reduceBEq, Int.reduceBNe, Int.reduceEq, Int.reduceLT, Int.reduceLE, bookC, resO, atI, k1]; exact ⟨rfl, rfl⟩) ?_ | refine g_run ?_ | refine g_off ?_ | refine aops_nil (d_end ?_) | refine aops_nil ?_ | refine awp_seq ?_ | refine g_text ?_ | refine g_draw Tryd.mixed ?_ | refine awp_block ?_ | refine awp_skip ?_ | (refine awp_exit ?_; simp only [thenA, blockA, ↓reduceIte, Nat.reduceEqDiff, reduceCtorEq]))
          refine ⟨(ts, none), ⟨hs, hps, e2, e3, e4, e5⟩, ?_, ?_⟩
          · (simp only [go_sem, reduceIte, reduceCtorEq, Nat.reduceAdd, Nat.reduceSub, Nat.reduceEqDiff, Nat.reduceLT, Nat.reduceLeDiff, Nat.reduceMul, ↓reduceIte, Int.reduceToNat, Int.reduceBEq, Int.reduceBNe, Int.reduceEq, Int.reduceLT, Int.reduceLE, bookC, resO, atI, k1])
          · cases acc <;> cases ms <;> cases ts <;> (simp only [rowS, cellS]; (simp only [go_sem, reduceIte, reduceCtorEq, Nat.reduceAdd, Nat.reduceSub, Nat.reduceEqDiff, Nat.reduceLT, Nat.reduceLeDiff, Nat.reduceMul, ↓reduceIte, Int.reduceToNat, Int.reduceBEq, Int.reduceBNe, Int.reduceEq, Int.reduceLT, Int.reduceLE, bookC, resO, atI, k1]))
      | some a =>
        have ha := hps a rfl
        by_cases hlt : i < n
        · have k1 := nlt hlt
          have k2 := wrap_succ hlt (by omega)
          by_cases hp : a + 2 ≤ b.length ∧ a + 2 + valLE (cut b a 2) ≤ b.length
          · have htt := w_takeText_yes env b a hb hp.1 hp.2
            have hpt : ptext b a = some (cut b (a + 2) (valLE (cut b a 2)), a + 2 + valLE (cut b a 2)) := by unfold ptext; rw [if_pos hp]
            have ha2 := hp.2
            have hag : a + 2 ≤ a + 2 + valLE (cut b a 2) := Nat.le_add_right _ _
            generalize cut b (a + 2) (valLE (cut b a 2)) = nm at *
            generalize a + 2 + valLE (cut b a 2) = a2 at *
            obtain ⟨o, ho⟩ : ∃ o, takeO b (some a2) 8 = o := ⟨_, rfl⟩
            have ht := w_rtake_con env b (some a2) 8 hb (fun x hx => by cases hx; omega) (by decide)
            rw [ho] at ht
            have hin := takeO_in ho
            have hn8 := takeO_le ho
            have hst : Stands T (o.map (·.2)) (ts ++ [(nm, (numO o : Int))]).length (fun x => ptms b (K3 acc ms) (n - (i + 1)) x (ts ++ [(nm, (numO o : Int))])) := by
              obtain ⟨h1, h2⟩ := hs
              have h1 : ptms b (K3 acc ms) (n - i) a ts = T := h1
              have ho : pnum b a2 8 = o := ho
              rw [show n - i = (n - (i + 1)) + 1 by omega, ptms, hpt] at h1
              have h1 : (pnum b a2 8).bind _ = T := h1
              rw [ho] at h1
              cases o with
              | none => exact h1.symm
              | some x => exact ⟨h1, by have := (pnum_le ho).2.1; simp only [List.length_append, List.length_cons, List.length_nil]; omega⟩
            have hal : ts.length ≤ a := hs.2
            have hf : Fits (ts.length + 1) 24 := ⟨by omega, by omega⟩
            unfold resO at ht
            generalize numO o = v at *
            obtain ⟨p1, hp1⟩ : ∃ p, o.map (·.2) = p := ⟨_, rfl⟩
            rw [hp1] at hst hin ht
            cases ts with
            | nil =>
              repeat (first | refine aops_op' rfl (by simp only [go_sem, reduceIte, reduceCtorEq, Nat.reduceAdd, Nat.reduceSub, Nat.reduceEqDiff, Nat.reduceLT, Nat.reduceLeDiff, Nat.reduceMul, ↓reduceIte, Int.reduceToNat, Int.reduceBEq, Int.reduceBNe, Int.reduceEq, Int.reduceLT, Int.reduceLE, bookC, resO, atI, k1, k2, e2, e3, e4, e5, hf, rowS, cellS, tmAV]; exact ⟨rfl, rfl⟩) ?_ | refine g_run ?_ | refine g_off ?_ | refine aops_nil (d_end ?_) | refine aops_nil ?_ | refine awp_seq ?_ | refine g_text ?_ | refine g_draw Tryd.mixed ?_ | refine awp_block ?_ | refine awp_skip ?_ | (refine awp_exit ?_; simp only [thenA, blockA, ↓reduceIte, Nat.reduceEqDiff, reduceCtorEq]))
              refine awp_yes' (by simp only [go_sem, reduceIte, reduceCtorEq, Nat.reduceAdd, Nat.reduceSub, Nat.reduceEqDiff, Nat.reduceLT, Nat.reduceLeDiff, Nat.reduceMul, ↓reduceIte, Int.reduceToNat, Int.reduceBEq, Int.reduceBNe, Int.reduceEq, Int.reduceLT, Int.reduceLE, bookC, resO, atI, k1, k2, e2, e3, e4, e5, hf, rowS, cellS, tmAV]; exact Is.rfl') ?_
              repeat (first | refine aops_op' rfl (by simp only [go_sem, reduceIte, reduceCtorEq, Nat.reduceAdd, Nat.reduceSub, Nat.reduceEqDiff, Nat.reduceLT, Nat.reduceLeDiff, Nat.reduceMul, ↓reduceIte, Int.reduceToNat, Int.reduceBEq, Int.reduceBNe, Int.reduceEq, Int.reduceLT, Int.reduceLE, bookC, resO, atI, k1, k2, e2, e3, e4, e5, hf, rowS, cellS, tmAV]; exact ⟨rfl, rfl⟩) ?_ | refine g_run ?_ | refine g_off ?_ | refine aops_nil (d_end ?_) | refine aops_nil ?_ | refine awp_seq ?_ | refine g_text ?_ | refine g_draw Tryd.mixed ?_ | refine awp_block ?_ | refine awp_skip ?_ | (refine awp_exit ?_; simp only [thenA, blockA, ↓reduceIte, Nat.reduceEqDiff, reduceCtorEq]))
              refine aops_call' rfl (htt) (by simp only [go_sem, reduceIte, reduceCtorEq, Nat.reduceAdd, Nat.reduceSub, Nat.reduceEqDiff, Nat.reduceLT, Nat.reduceLeDiff, Nat.reduceMul, ↓reduceIte, Int.reduceToNat, Int.reduceBEq, Int.reduceBNe, Int.reduceEq, Int.reduceLT, Int.reduceLE, bookC, resO, atI, k1, k2, e2, e3, e4, e5, hf, rowS, cellS, tmAV]; exact Is.rfl') (by simp only [go_sem, reduceIte, reduceCtorEq, Nat.reduceAdd, Nat.reduceSub, Nat.reduceEqDiff, Nat.reduceLT, Nat.reduceLeDiff, Nat.reduceMul, ↓reduceIte, Int.reduceToNat, Int.reduceBEq, Int.reduceBNe, Int.reduceEq, Int.reduceLT, Int.reduceLE, bookC, resO, atI, k1, k2, e2, e3, e4, e5, hf, rowS, cellS, tmAV]; exact ⟨rfl, rfl⟩) ?_
              repeat (first | refine aops_op' rfl (by simp only [go_sem, reduceIte, reduceCtorEq, Nat.reduceAdd, Nat.reduceSub, Nat.reduceEqDiff, Nat.reduceLT, Nat.reduceLeDiff, Nat.reduceMul, ↓reduceIte, Int.reduceToNat, Int.reduceBEq, Int.reduceBNe, Int.reduceEq, Int.reduceLT, Int.reduceLE, bookC, resO, atI, k1, k2, e2, e3, e4, e5, hf, rowS, cellS, tmAV]; exact ⟨rfl, rfl⟩) ?_ | refine g_run ?_ | refine g_off ?_ | refine aops_nil (d_end ?_) | refine aops_nil ?_ | refine awp_seq ?_ | refine g_text ?_ | refine g_draw Tryd.mixed ?_ | refine awp_block ?_ | refine awp_skip ?_ | (refine awp_exit ?_; simp only [thenA, blockA, ↓reduceIte, Nat.reduceEqDiff, reduceCtorEq]))
              refine awp_no' (by simp only [go_sem, reduceIte, reduceCtorEq, Nat.reduceAdd, Nat.reduceSub, Nat.reduceEqDiff, Nat.reduceLT, Nat.reduceLeDiff, Nat.reduceMul, ↓reduceIte, Int.reduceToNat, Int.reduceBEq, Int.reduceBNe, Int.reduceEq, Int.reduceLT, Int.reduceLE, bookC, resO, atI, k1, k2, e2, e3, e4, e5, hf, rowS, cellS, tmAV]; exact Is.rfl') ?_
              repeat (first | refine aops_op' rfl (by simp only [go_sem, reduceIte, reduceCtorEq, Nat.reduceAdd, Nat.reduceSub, Nat.reduceEqDiff, Nat.reduceLT, Nat.reduceLeDiff, Nat.reduceMul, ↓reduceIte, Int.reduceToNat, Int.reduceBEq, Int.reduceBNe, Int.reduceEq, Int.reduceLT, Int.reduceLE, bookC, resO, atI, k1, k2, e2, e3, e4, e5, hf, rowS, cellS, tmAV]; exact ⟨rfl, rfl⟩) ?_ | refine g_run ?_ | refine g_off ?_ | refine aops_nil (d_end ?_) | refine aops_nil ?_ | refine awp_seq ?_ | refine g_text ?_ | refine g_draw Tryd.mixed ?_ | refine awp_block ?_ | refine awp_skip ?_ | (refine awp_exit ?_; simp only [thenA, blockA, ↓reduceIte, Nat.reduceEqDiff, reduceCtorEq]))
              refine aops_call' rfl (ht) (by simp only [go_sem, reduceIte, reduceCtorEq, Nat.reduceAdd, Nat.reduceSub, Nat.reduceEqDiff, Nat.reduceLT, Nat.reduceLeDiff, Nat.reduceMul, ↓reduceIte, Int.reduceToNat, Int.reduceBEq, Int.reduceBNe, Int.reduceEq, Int.reduceLT, Int.reduceLE, bookC, resO, atI, k1, k2, e2, e3, e4, e5, hf, rowS, cellS, tmAV]; exact Is.rfl') (by simp only [go_sem, reduceIte, reduceCtorEq, Nat.reduceAdd, Nat.reduceSub, Nat.reduceEqDiff, Nat.reduceLT, Nat.reduceLeDiff, Nat.reduceMul, ↓reduceIte, Int.reduceToNat, Int.reduceBEq, Int.reduceBNe, Int.reduceEq, Int.reduceLT, Int.reduceLE, bookC, resO, atI, k1, k2, e2, e3, e4, e5, hf, rowS, cellS, tmAV]; exact ⟨rfl, rfl⟩) ?_
              repeat (first | refine aops_op' rfl (by simp only [go_sem, reduceIte, reduceCtorEq, Nat.reduceAdd, Nat.reduceSub, Nat.reduceEqDiff, Nat.reduceLT, Nat.reduceLeDiff, Nat.reduceMul, ↓reduceIte, Int.reduceToNat, Int.reduceBEq, Int.reduceBNe, Int.reduceEq, Int.reduceLT, Int.reduceLE, bookC, resO, atI, k1, k2, e2, e3, e4, e5, hf, rowS, cellS, tmAV]; exact ⟨rfl, rfl⟩) ?_ | refine g_run ?_ | refine g_off ?_ | refine aops_nil (d_end ?_) | refine aops_nil ?_ | refine awp_seq ?_ | refine g_text ?_ | refine g_draw Tryd.mixed ?_ | refine awp_block ?_ | refine awp_skip ?_ | (refine awp_exit ?_; simp only [thenA, blockA, ↓reduceIte, Nat.reduceEqDiff, reduceCtorEq]))
              refine ⟨(i + 1, [] ++ [(nm, (v : Int))], p1), ⟨hlt, ?_, hin, ?_⟩, ?_, ?_, ?_⟩
              · exact hst
              · simp only [go_sem, reduceIte, reduceCtorEq, Nat.reduceAdd, Nat.reduceSub, Nat.reduceEqDiff, Nat.reduceLT, Nat.reduceLeDiff, Nat.reduceMul, ↓reduceIte, Int.reduceToNat, Int.reduceBEq, Int.reduceBNe, Int.reduceEq, Int.reduceLT, Int.reduceLE, e2, e3, e4, e5]
              · (simp only [go_sem, reduceIte, reduceCtorEq, Nat.reduceAdd, Nat.reduceSub, Nat.reduceEqDiff, Nat.reduceLT, Nat.reduceLeDiff, Nat.reduceMul, ↓reduceIte, Int.reduceToNat, Int.reduceBEq, Int.reduceBNe, Int.reduceEq, Int.reduceLT, Int.reduceLE, bookC, resO, atI, k1, k2, e2, e3, e4, e5, hf, rowS, cellS, tmAV])
              · cases acc <;> cases ms <;> (simp only [List.nil_append, rowS, cellS]; (simp only [go_sem, reduceIte, reduceCtorEq, Nat.reduceAdd, Nat.reduceSub, Nat.reduceEqDiff, Nat.reduceLT, Nat.reduceLeDiff, Nat.reduceMul, ↓reduceIte, Int.reduceToNat, Int.reduceBEq, Int.reduceBNe, Int.reduceEq, Int.reduceLT, Int.reduceLE, bookC, resO, atI, k1, k2, e2, e3, e4, e5, hf, rowS, cellS, tmAV]))
              · simp only; omega
            | cons y r =>
              have hf2 : Fits (r.length + 1 + 1) 24 := hf
              repeat (first | refine aops_op' rfl (by simp only [go_sem, reduceIte, reduceCtorEq, Nat.reduceAdd, Nat.reduceSub, Nat.reduceEqDiff, Nat.reduceLT, Nat.reduceLeDiff, Nat.reduceMul, ↓reduceIte, Int.reduceToNat, Int.reduceBEq, Int.reduceBNe, Int.reduceEq, Int.reduceLT, Int.reduceLE, bookC, resO, atI, k1, k2, e2, e3, e4, e5, hf2, rowS, cellS, tmAV]; exact ⟨rfl, rfl⟩) ?_ | refine g_run ?_ | refine g_off ?_ | refine aops_nil (d_end ?_) | refine aops_nil ?_ | refine awp_seq ?_ | refine g_text ?_ | refine g_draw Tryd.mixed ?_ | refine awp_block ?_ | refine awp_skip ?_ | (refine awp_exit ?_; simp only [thenA, blockA, ↓reduceIte, Nat.reduceEqDiff, reduceCtorEq]))
              refine awp_yes' (by simp only [go_sem, reduceIte, reduceCtorEq, Nat.reduceAdd, Nat.reduceSub, Nat.reduceEqDiff, Nat.reduceLT, Nat.reduceLeDiff, Nat.reduceMul, ↓reduceIte, Int.reduceToNat, Int.reduceBEq, Int.reduceBNe, Int.reduceEq, Int.reduceLT, Int.reduceLE, bookC, resO, atI, k1, k2, e2, e3, e4, e5, hf2, rowS, cellS, tmAV]; exact Is.rfl') ?_
              repeat (first | refine aops_op' rfl (by simp only [go_sem, reduceIte, reduceCtorEq, Nat.reduceAdd, Nat.reduceSub, Nat.reduceEqDiff, Nat.reduceLT, Nat.reduceLeDiff, Nat.reduceMul, ↓reduceIte, Int.reduceToNat, Int.reduceBEq, Int.reduceBNe, Int.reduceEq, Int.reduceLT, Int.reduceLE, bookC, resO, atI, k1, k2, e2, e3, e4, e5, hf2, rowS, cellS, tmAV]; exact ⟨rfl, rfl⟩) ?_ | refine g_run ?_ | refine g_off ?_ | refine aops_nil (d_end ?_) | refine aops_nil ?_ | refine awp_seq ?_ | refine g_text ?_ | refine g_draw Tryd.mixed ?_ | refine awp_block ?_ | refine awp_skip ?_ | (refine awp_exit ?_; simp only [thenA, blockA, ↓reduceIte, Nat.reduceEqDiff, reduceCtorEq]))
              refine aops_call' rfl (htt) (by simp only [go_sem, reduceIte, reduceCtorEq, Nat.reduceAdd, Nat.reduceSub, Nat.reduceEqDiff, Nat.reduceLT, Nat.reduceLeDiff, Nat.reduceMul, ↓reduceIte, Int.reduceToNat, Int.reduceBEq, Int.reduceBNe, Int.reduceEq, Int.reduceLT, Int.reduceLE, bookC, resO, atI, k1, k2, e2, e3, e4, e5, hf2, rowS, cellS, tmAV]; exact Is.rfl') (by simp only [go_sem, reduceIte, reduceCtorEq, Nat.reduceAdd, Nat.reduceSub, Nat.reduceEqDiff, Nat.reduceLT, Nat.reduceLeDiff, Nat.reduceMul, ↓reduceIte, Int.reduceToNat, Int.reduceBEq, Int.reduceBNe, Int.reduceEq, Int.reduceLT, Int.reduceLE, bookC, resO, atI, k1, k2, e2, e3, e4, e5, hf2, rowS, cellS, tmAV]; exact ⟨rfl, rfl⟩) ?_
              repeat (first | refine aops_op' rfl (by simp only [go_sem, reduceIte, reduceCtorEq, Nat.reduceAdd, Nat.reduceSub, Nat.reduceEqDiff, Nat.reduceLT, Nat.reduceLeDiff, Nat.reduceMul, ↓reduceIte, Int.reduceToNat, Int.reduceBEq, Int.reduceBNe, Int.reduceEq, Int.reduceLT, Int.reduceLE, bookC, resO, atI, k1, k2, e2, e3, e4, e5, hf2, rowS, cellS, tmAV]; exact ⟨rfl, rfl⟩) ?_ | refine g_run ?_ | refine g_off ?_ | refine aops_nil (d_end ?_) | refine aops_nil ?_ | refine awp_seq ?_ | refine g_text ?_ | refine g_draw Tryd.mixed ?_ | refine awp_block ?_ | refine awp_skip ?_ | (refine awp_exit ?_; simp only [thenA, blockA, ↓reduceIte, Nat.reduceEqDiff, reduceCtorEq]))
              refine awp_no' (by simp only [go_sem, reduceIte, reduceCtorEq, Nat.reduceAdd, Nat.reduceSub, Nat.reduceEqDiff, Nat.reduceLT, Nat.reduceLeDiff, Nat.reduceMul, ↓reduceIte, Int.reduceToNat, Int.reduceBEq, Int.reduceBNe, Int.reduceEq, Int.reduceLT, Int.reduceLE, bookC, resO, atI, k1, k2, e2, e3, e4, e5, hf2, rowS, cellS, tmAV]; exact Is.rfl') ?_
              repeat (first | refine aops_op' rfl (by simp only [go_sem, reduceIte, reduceCtorEq, Nat.reduceAdd, Nat.reduceSub, Nat.reduceEqDiff, Nat.reduceLT, Nat.reduceLeDiff, Nat.reduceMul, ↓reduceIte, Int.reduceToNat, Int.reduceBEq, Int.reduceBNe, Int.reduceEq, Int.reduceLT, Int.reduceLE, bookC, resO, atI, k1, k2, e2, e3, e4, e5, hf2, rowS, cellS, tmAV]; exact ⟨rfl, rfl⟩) ?_ | refine g_run ?_ | refine g_off ?_ | refine aops_nil (d_end ?_) | refine aops_nil ?_ | refine awp_seq ?_ | refine g_text ?_ | refine g_draw Tryd.mixed ?_ | refine awp_block ?_ | refine awp_skip ?_ | (refine awp_exit ?_; simp only [thenA, blockA, ↓reduceIte, Nat.reduceEqDiff, reduceCtorEq]))
              refine aops_call' rfl (ht) (by simp only [go_sem, reduceIte, reduceCtorEq, Nat.reduceAdd, Nat.reduceSub, Nat.reduceEqDiff, Nat.reduceLT, Nat.reduceLeDiff, Nat.reduceMul, ↓reduceIte, Int.reduceToNat, Int.reduceBEq, Int.reduceBNe, Int.reduceEq, Int.reduceLT, Int.reduceLE, bookC, resO, atI, k1, k2, e2, e3, e4, e5, hf2, rowS, cellS, tmAV]; exact Is.rfl') (by simp only [go_sem, reduceIte, reduceCtorEq, Nat.reduceAdd, Nat.reduceSub, Nat.reduceEqDiff, Nat.reduceLT, Nat.reduceLeDiff, Nat.reduceMul, ↓reduceIte, Int.reduceToNat, Int.reduceBEq, Int.reduceBNe, Int.reduceEq, Int.reduceLT, Int.reduceLE, bookC, resO, atI, k1, k2, e2, e3, e4, e5, hf2, rowS, cellS, tmAV]; exact ⟨rfl, rfl⟩) ?_
              repeat (first | refine aops_op' rfl (by simp only [go_sem, reduceIte, reduceCtorEq, Nat.reduceAdd, Nat.reduceSub, Nat.reduceEqDiff, Nat.reduceLT, Nat.reduceLeDiff, Nat.reduceMul, ↓reduceIte, Int.reduceToNat, Int.reduceBEq, Int.reduceBNe, Int.reduceEq, Int.reduceLT, Int.reduceLE, bookC, resO, atI, k1, k2, e2, e3, e4, e5, hf2, rowS, cellS, tmAV]; exact ⟨rfl, rfl⟩) ?_ | refine g_run ?_ | refine g_off ?_ | refine aops_nil (d_end ?_) | refine aops_nil ?_ | refine awp_seq ?_ | refine g_text ?_ | refine g_draw Tryd.mixed ?_ | refine awp_block ?_ | refine awp_skip ?_ | (refine awp_exit ?_; simp only [thenA, blockA, ↓reduceIte, Nat.reduceEqDiff, reduceCtorEq]))
              refine ⟨(i + 1, y :: r ++ [(nm, (v : Int))], p1), ⟨hlt, ?_, hin, ?_⟩, ?_, ?_, ?_⟩
              · exact hst
              · simp only [go_sem, reduceIte, reduceCtorEq, Nat.reduceAdd, Nat.reduceSub, Nat.reduceEqDiff, Nat.reduceLT, Nat.reduceLeDiff, Nat.reduceMul, ↓reduceIte, Int.reduceToNat, Int.reduceBEq, Int.reduceBNe, Int.reduceEq, Int.reduceLT, Int.reduceLE, e2, e3, e4, e5]
              · (simp only [go_sem, reduceIte, reduceCtorEq, Nat.reduceAdd, Nat.reduceSub, Nat.reduceEqDiff, Nat.reduceLT, Nat.reduceLeDiff, Nat.reduceMul, ↓reduceIte, Int.reduceToNat, Int.reduceBEq, Int.reduceBNe, Int.reduceEq, Int.reduceLT, Int.reduceLE, bookC, resO, atI, k1, k2, e2, e3, e4, e5, hf2, rowS, cellS, tmAV])
              · cases acc <;> cases ms <;> (simp only [List.cons_append, rowS, cellS]; (simp only [go_sem, reduceIte, reduceCtorEq, Nat.reduceAdd, Nat.reduceSub, Nat.reduceEqDiff, Nat.reduceLT, Nat.reduceLeDiff, Nat.reduceMul, ↓reduceIte, Int.reduceToNat, Int.reduceBEq, Int.reduceBNe, Int.reduceEq, Int.reduceLT, Int.reduceLE, bookC, resO, atI, k1, k2, e2, e3, e4, e5, hf2, rowS, cellS, tmAV]); simp [tmAV])
              · simp only; omega
          · have htt := w_takeText_no env b a hb (by omega) hp
            have hT : T = none := by
              obtain ⟨h1, h2⟩ := hs
              have h1 : ptms b (K3 acc ms) (n - i) a ts = T := h1
              rw [show n - i = (n - (i + 1)) + 1 by omega, ptms, show ptext b a = none by unfold ptext; rw [if_neg hp]] at h1
              exact h1.symm
            rw [hT]
            have k3 : ((if b.length < a then (2 : Int) else 1) != 0) = true := by split <;> rfl
            generalize (if b.length < a then (2 : Int) else 1) = code at *
            cases acc <;> cases ms <;> cases ts <;>
            (
              simp only [rowS, cellS]
              repeat (first | refine aops_op' rfl (by simp only [go_sem, reduceIte, reduceCtorEq, Nat.reduceAdd, Nat.reduceSub, Nat.reduceEqDiff, Nat.reduceLT, Nat.reduceLeDiff, Nat.reduceMul, ↓reduceIte, Int.reduceToNat, Int.reduceBEq, Int.reduceBNe, Int.reduceEq, Int.reduceLT, Int.reduceLE, bookC, atI, k1, k2, k3, e2, e3, e4, e5]; exact ⟨rfl, rfl⟩) ?_ | refine g_run ?_ | refine g_off ?_ | refine aops_nil (d_end ?_) | refine aops_nil ?_ | refine awp_seq ?_ | refine g_text ?_ | refine g_draw Tryd.mixed ?_ | refine awp_block ?_ | refine awp_skip ?_ | (refine awp_exit ?_; simp only [thenA, blockA, ↓reduceIte, Nat.reduceEqDiff, reduceCtorEq]))
              refine awp_yes' (by simp only [go_sem, reduceIte, reduceCtorEq, Nat.reduceAdd, Nat.reduceSub, Nat.reduceEqDiff, Nat.reduceLT, Nat.reduceLeDiff, Nat.reduceMul, ↓reduceIte, Int.reduceToNat, Int.reduceBEq, Int.reduceBNe, Int.reduceEq, Int.reduceLT, Int.reduceLE, bookC, atI, k1, k2, k3, e2, e3, e4, e5]; exact Is.rfl') ?_
              repeat (first | refine aops_op' rfl (by simp only [go_sem, reduceIte, reduceCtorEq, Nat.reduceAdd, Nat.reduceSub, Nat.reduceEqDiff, Nat.reduceLT, Nat.reduceLeDiff, Nat.reduceMul, ↓reduceIte, Int.reduceToNat, Int.reduceBEq, Int.reduceBNe, Int.reduceEq, Int.reduceLT, Int.reduceLE, bookC, atI, k1, k2, k3, e2, e3, e4, e5]; exact ⟨rfl, rfl⟩) ?_ | refine g_run ?_ | refine g_off ?_ | refine aops_nil (d_end ?_) | refine aops_nil ?_ | refine awp_seq ?_ | refine g_text ?_ | refine g_draw Tryd.mixed ?_ | refine awp_block ?_ | refine awp_skip ?_ | (refine awp_exit ?_; simp only [thenA, blockA, ↓reduceIte, Nat.reduceEqDiff, reduceCtorEq]))
              refine aops_call' rfl (htt) (by simp only [go_sem, reduceIte, reduceCtorEq, Nat.reduceAdd, Nat.reduceSub, Nat.reduceEqDiff, Nat.reduceLT, Nat.reduceLeDiff, Nat.reduceMul, ↓reduceIte, Int.reduceToNat, Int.reduceBEq, Int.reduceBNe, Int.reduceEq, Int.reduceLT, Int.reduceLE, bookC, atI, k1, k2, k3, e2, e3, e4, e5]; exact Is.rfl') (by simp only [go_sem, reduceIte, reduceCtorEq, Nat.reduceAdd, Nat.reduceSub, Nat.reduceEqDiff, Nat.reduceLT, Nat.reduceLeDiff, Nat.reduceMul, ↓reduceIte, Int.reduceToNat, Int.reduceBEq, Int.reduceBNe, Int.reduceEq, Int.reduceLT, Int.reduceLE, bookC, atI, k1, k2, k3, e2, e3, e4, e5]; exact ⟨rfl, rfl⟩) ?_
              repeat (first | refine aops_op' rfl (by simp only [go_sem, reduceIte, reduceCtorEq, Nat.reduceAdd, Nat.reduceSub, Nat.reduceEqDiff, Nat.reduceLT, Nat.reduceLeDiff, Nat.reduceMul, ↓reduceIte, Int.reduceToNat, Int.reduceBEq, Int.reduceBNe, Int.reduceEq, Int.reduceLT, Int.reduceLE, bookC, atI, k1, k2, k3, e2, e3, e4, e5]; exact ⟨rfl, rfl⟩) ?_ | refine g_run ?_ | refine g_off ?_ | refine aops_nil (d_end ?_) | refine aops_nil ?_ | refine awp_seq ?_ | refine g_text ?_ | refine g_draw Tryd.mixed ?_ | refine awp_block ?_ | refine awp_skip ?_ | (refine awp_exit ?_; simp only [thenA, blockA, ↓reduceIte, Nat.reduceEqDiff, reduceCtorEq]))
              refine awp_yes' (by simp only [go_sem, reduceIte, reduceCtorEq, Nat.reduceAdd, Nat.reduceSub, Nat.reduceEqDiff, Nat.reduceLT, Nat.reduceLeDiff, Nat.reduceMul, ↓reduceIte, Int.reduceToNat, Int.reduceBEq, Int.reduceBNe, Int.reduceEq, Int.reduceLT, Int.reduceLE, bookC, atI, k1, k2, k3, e2, e3, e4, e5]; exact Is.rfl') ?_
              repeat (first | refine aops_op' rfl (by simp only [go_sem, reduceIte, reduceCtorEq, Nat.reduceAdd, Nat.reduceSub, Nat.reduceEqDiff, Nat.reduceLT, Nat.reduceLeDiff, Nat.reduceMul, ↓reduceIte, Int.reduceToNat, Int.reduceBEq, Int.reduceBNe, Int.reduceEq, Int.reduceLT, Int.reduceLE, bookC, atI, k1, k2, k3, e2, e3, e4, e5]; exact ⟨rfl, rfl⟩) ?_ | refine g_run ?_ | refine g_off ?_ | refine aops_nil (d_end ?_) | refine aops_nil ?_ | refine awp_seq ?_ | refine g_text ?_ | refine g_draw Tryd.mixed ?_ | refine awp_block ?_ | refine awp_skip ?_ | (refine awp_exit ?_; simp only [thenA, blockA, ↓reduceIte, Nat.reduceEqDiff, reduceCtorEq]))
              (refine awp_ret ?_; refine ⟨_, (by show (resRd _ _ _).run _ = some _; simp only [go_sem, reduceIte, reduceCtorEq, Nat.reduceAdd, Nat.reduceSub, Nat.reduceEqDiff, Nat.reduceLT, Nat.reduceLeDiff, Nat.reduceMul, ↓reduceIte, Int.reduceToNat, Int.reduceBEq, Int.reduceBNe, Int.reduceEq, Int.reduceLT, Int.reduceLE, bookC, atI, k1, k2, k3, e2, e3, e4, e5]; rfl), ?_⟩)
              exact .tuple (.cons (.refl _) (.cons (.agg (.cons (.any _) (.cons (.any _) (.cons (.any _) (.cons (.any _) (.cons (.any _) .nil)))))) .nil)))
        · have k1 : ¬ (i : Int) < (n : Int) := by omega
          have hs' : Stands T (some a) 0 (fun x => K3 acc ms ts x) := by
            obtain ⟨h1, h2⟩ := hs
            have h1 : ptms b (K3 acc ms) (n - i) a ts = T := h1
            rw [show n - i = 0 by omega] at h1
            exact ⟨h1, Nat.zero_le _⟩
          repeat (first | refine aops_op' rfl (by simp only [go_sem, reduceIte, reduceCtorEq, Nat.reduceAdd, Nat.reduceSub, Nat.reduceEqDiff, Nat.reduceLT, Nat.reduceLeDiff, Nat.reduceMul, ↓reduceIte, Int.reduceToNat, Int.reduceBEq, Int.reduceBNe, Int.reduceEq, Int.reduceLT, Int.reduceLE, bookC, resO, atI, k1]; exact ⟨rfl, rfl⟩) ?_ | refine g_run ?_ | refine g_off ?_ | refine aops_nil (d_end ?_) | refine aops_nil ?_ | refine awp_seq ?_ | refine g_text ?_ | refine g_draw Tryd.mixed ?_ | refine awp_block ?_ | refine awp_skip ?_ | (refine awp_exit ?_; simp only [thenA, blockA, ↓reduceIte, Nat.reduceEqDiff, reduceCtorEq]))
          refine awp_no' (by simp only [go_sem, reduceIte, reduceCtorEq, Nat.reduceAdd, Nat.reduceSub, Nat.reduceEqDiff, Nat.reduceLT, Nat.reduceLeDiff, Nat.reduceMul, ↓reduceIte, Int.reduceToNat, Int.reduceBEq, Int.reduceBNe, Int.reduceEq, Int.reduceLT, Int.reduceLE, bookC, resO, atI, k1]; exact Is.rfl') ?_
          repeat (first | refine aops_op' rfl (by simp only [go_sem, reduceIte, reduceCtorEq, Nat.reduceAdd, Nat.reduceSub, Nat.reduceEqDiff, Nat.reduceLT, Nat.reduceLeDiff, Nat.reduceMul, ↓reduceIte, Int.reduceToNat, Int.reduceBEq, Int.reduceBNe, Int.reduceEq, Int.reduceLT, Int.reduceLE, bookC, resO, atI, k1]; exact ⟨rfl, rfl⟩) ?_ | refine g_run ?_ | refine g_off ?_ | refine aops_nil (d_end ?_) | refine aops_nil ?_ | refine awp_seq ?_ | refine g_text ?_ | refine g_draw Tryd.mixed ?_ | refine awp_block ?_ | refine awp_skip ?_ | (refine awp_exit ?_; simp only [thenA, blockA, ↓reduceIte, Nat.reduceEqDiff, reduceCtorEq]))
          refine ⟨(ts, some a), ⟨hs', hps, e2, e3, e4, e5⟩, ?_, ?_⟩
          · (simp only [go_sem, reduceIte, reduceCtorEq, Nat.reduceAdd, Nat.reduceSub, Nat.reduceEqDiff, Nat.reduceLT, Nat.reduceLeDiff, Nat.reduceMul, ↓reduceIte, Int.reduceToNat, Int.reduceBEq, Int.reduceBNe, Int.reduceEq, Int.reduceLT, Int.reduceLE, bookC, resO, atI, k1])
          · cases acc <;> cases ms <;> cases ts <;> (simp only [rowS, cellS]; (simp only [go_sem, reduceIte, reduceCtorEq, Nat.reduceAdd, Nat.reduceSub, Nat.reduceEqDiff, Nat.reduceLT, Nat.reduceLeDiff, Nat.reduceMul, ↓reduceIte, Int.reduceToNat, Int.reduceBEq, Int.reduceBNe, Int.reduceEq, Int.reduceLT, Int.reduceLE, bookC, resO, atI, k1]))
    refine awp_loopH (D := Nat × List (Int × List Int) × Option Nat) (fun d vs => [(2, .loc 2 (vs 2) 0 0), (3, .loc 3 (vs 3) 0 0), (4, .loc 4 (vs 4) 0 0), (5, .loc 5 (vs 5) 0 0), (6, I n), (9, I d.1)])
      (fun d vs => [(2, ⟨2, [bookC b d.2.2], 141, false⟩), (3, ⟨5, [[Il ac, cellS acc 41 (vs 41), cellS d.2.1 77 (vs 77), nilS, B over]], 50, false⟩), (4, ⟨2, [[nilS, I 0]], 141, false⟩), (5, ⟨5, [[nilS, nilS, nilS, nilS, B false]], 50, false⟩)] ++ rowS d.2.1 77 ⟨2, d.2.1.map memAV, 81, true⟩ ++ rowS acc 41 ⟨1, acc.map iAV, 3, true⟩)
      (fun d _ esc => d.1 ≤ n ∧ Stands T d.2.2 d.2.1.length (fun a => pmems b (K2 b acc) (n - d.1) a d.2.1) ∧ (∀ x, d.2.2 = some x → x ≤ b.length) ∧ esc 2 = false ∧ esc 3 = false ∧ esc 4 = false ∧ esc 5 = false) (fun d => n - d.1) (0, [], p1) ?_ ?_ ?_ ?_
    · exact ⟨Nat.zero_le _, hst, hin, by simp only [go_sem, reduceIte, reduceCtorEq, Nat.reduceAdd, Nat.reduceSub, Nat.reduceEqDiff, Nat.reduceLT, Nat.reduceLeDiff, Nat.reduceMul, ↓reduceIte, Int.reduceToNat, Int.reduceBEq, Int.reduceBNe, Int.reduceEq, Int.reduceLT, Int.reduceLE, e2], by simp only [go_sem, reduceIte, reduceCtorEq, Nat.reduceAdd, Nat.reduceSub, Nat.reduceEqDiff, Nat.reduceLT, Nat.reduceLeDiff, Nat.reduceMul, ↓reduceIte, Int.reduceToNat, Int.reduceBEq, Int.reduceBNe, Int.reduceEq, Int.reduceLT, Int.reduceLE, e3], by simp only [go_sem, reduceIte, reduceCtorEq, Nat.reduceAdd, Nat.reduceSub, Nat.reduceEqDiff, Nat.reduceLT, Nat.reduceLeDiff, Nat.reduceMul, ↓reduceIte, Int.reduceToNat, Int.reduceBEq, Int.reduceBNe, Int.reduceEq, Int.reduceLT, Int.reduceLE, e4], by simp only [go_sem, reduceIte, reduceCtorEq, Nat.reduceAdd, Nat.reduceSub, Nat.reduceEqDiff, Nat.reduceLT, Nat.reduceLeDiff, Nat.reduceMul, ↓reduceIte, Int.reduceToNat, Int.reduceBEq, Int.reduceBNe, Int.reduceEq, Int.reduceLT, Int.reduceLE, e5]⟩
    · (simp only [go_sem, reduceIte, reduceCtorEq, Nat.reduceAdd, Nat.reduceSub, Nat.reduceEqDiff, Nat.reduceLT, Nat.reduceLeDiff, Nat.reduceMul, ↓reduceIte, Int.reduceToNat, Int.reduceBEq, Int.reduceBNe, Int.reduceEq, Int.reduceLT, Int.reduceLE, bookC, resO])
    · cases acc <;> (simp only [rowS, cellS]; (simp only [go_sem, reduceIte, reduceCtorEq, Nat.reduceAdd, Nat.reduceSub, Nat.reduceEqDiff, Nat.reduceLT, Nat.reduceLeDiff, Nat.reduceMul, ↓reduceIte, Int.reduceToNat, Int.reduceBEq, Int.reduceBNe, Int.reduceEq, Int.reduceLT, Int.reduceLE, bookC, resO]))
    clear e2 e3 e4 e5
    rintro ⟨i, ms, pos⟩ vs esc ⟨hi, hs, hps, e2, e3, e4, e5⟩
    simp only at hi hs hps
    cases pos with
    | none =>
      by_cases hlt : i < n
      · have k1 := nlt hlt
        repeat (first | refine aops_op' rfl (by simp only [go_sem, reduceIte, reduceCtorEq, Nat.reduceAdd, Nat.reduceSub, Nat.reduceEqDiff, Nat.reduceLT, Nat.reduceLeDiff, Nat.reduceMul, ↓reduceIte, Int.reduceToNat, Int.reduceBEq, Int.reduceBNe, Int.reduceEq, Int.reduceLT, Int.reduceLE, bookC, resO, atI, k1]; exact ⟨rfl, rfl⟩) ?_ | refine g_run ?_ | refine g_off ?_ | refine aops_nil (d_end ?_) | refine aops_nil ?_ | refine awp_seq ?_ | refine g_text ?_ | refine g_draw Tryd.mixed ?_ | refine awp_block ?_ | refine awp_skip ?_ | (refine awp_exit ?_; simp only [thenA, blockA, ↓reduceIte, Nat.reduceEqDiff, reduceCtorEq]))
        refine awp_no' (by simp only [go_sem, reduceIte, reduceCtorEq, Nat.reduceAdd, Nat.reduceSub, Nat.reduceEqDiff, Nat.reduceLT, Nat.reduceLeDiff, Nat.reduceMul, ↓reduceIte, Int.reduceToNat, Int.reduceBEq, Int.reduceBNe, Int.reduceEq, Int.reduceLT, Int.reduceLE, bookC, resO, atI, k1]; exact Is.rfl') ?_
        repeat (first | refine aops_op' rfl (by simp only [go_sem, reduceIte, reduceCtorEq, Nat.reduceAdd, Nat.reduceSub, Nat.reduceEqDiff, Nat.reduceLT, Nat.reduceLeDiff, Nat.reduceMul, ↓reduceIte, Int.reduceToNat, Int.reduceBEq, Int.reduceBNe, Int.reduceEq, Int.reduceLT, Int.reduceLE, bookC, resO, atI, k1]; exact ⟨rfl, rfl⟩) ?_ | refine g_run ?_ | refine g_off ?_ | refine aops_nil (d_end ?_) | refine aops_nil ?_ | refine awp_seq ?_ | refine g_text ?_ | refine g_draw Tryd.mixed ?_ | refine awp_block ?_ | refine awp_skip ?_ | (refine awp_exit ?_; simp only [thenA, blockA, ↓reduceIte, Nat.reduceEqDiff, reduceCtorEq]))
        refine ⟨(ms, none), ⟨hs, hps, e2, e3, e4, e5⟩, ?_, ?_⟩
        · (simp only [go_sem, reduceIte, reduceCtorEq, Nat.reduceAdd, Nat.reduceSub, Nat.reduceEqDiff, Nat.reduceLT, Nat.reduceLeDiff, Nat.reduceMul, ↓reduceIte, Int.reduceToNat, Int.reduceBEq, Int.reduceBNe, Int.reduceEq, Int.reduceLT, Int.reduceLE, bookC, resO, atI, k1])
        · cases acc <;> cases ms <;> (simp only [rowS, cellS]; (simp only [go_sem, reduceIte, reduceCtorEq, Nat.reduceAdd, Nat.reduceSub, Nat.reduceEqDiff, Nat.reduceLT, Nat.reduceLeDiff, Nat.reduceMul, ↓reduceIte, Int.reduceToNat, Int.reduceBEq, Int.reduceBNe, Int.reduceEq, Int.reduceLT, Int.reduceLE, bookC, resO, atI, k1]))
      · have k1 : ¬ (i : Int) < (n : Int) := by omega
        repeat (first | refine aops_op' rfl (by simp only [go_sem, reduceIte, reduceCtorEq, Nat.reduceAdd, Nat.reduceSub, Nat.reduceEqDiff, Nat.reduceLT, Nat.reduceLeDiff, Nat.reduceMul, ↓reduceIte, Int.reduceToNat, Int.reduceBEq, Int.reduceBNe, Int.reduceEq, Int.reduceLT, Int.reduceLE, bookC, resO, atI, k1]; exact ⟨rfl, rfl⟩) ?_ | refine g_run ?_ | refine g_off ?_ | refine aops_nil (d_end ?_) | refine aops_nil ?_ | refine awp_seq ?_ | refine g_text ?_ | refine g_draw Tryd.mixed ?_ | refine awp_block ?_ | refine awp_skip ?_ | (refine awp_exit ?_; simp only [thenA, blockA, ↓reduceIte, Nat.reduceEqDiff, reduceCtorEq]))
        refine awp_no' (by simp only [go_sem, reduceIte, reduceCtorEq, Nat.reduceAdd, Nat.reduceSub, Nat.reduceEqDiff, Nat.reduceLT, Nat.reduceLeDiff, Nat.reduceMul, ↓reduceIte, Int.reduceToNat, Int.reduceBEq, Int.reduceBNe, Int.reduceEq, Int.reduceLT, Int.reduceLE, bookC, resO, atI, k1]; exact Is.rfl') ?_
        repeat (first | refine aops_op' rfl (by simp only [go_sem, reduceIte, reduceCtorEq, Nat.reduceAdd, Nat.reduceSub, Nat.reduceEqDiff, Nat.reduceLT, Nat.reduceLeDiff, Nat.reduceMul, ↓reduceIte, Int.reduceToNat, Int.reduceBEq, Int.reduceBNe, Int.reduceEq, Int.reduceLT, Int.reduceLE, bookC, resO, atI, k1]; exact ⟨rfl, rfl⟩) ?_ | refine g_run ?_ | refine g_off ?_ | refine aops_nil (d_end ?_) | refine aops_nil ?_ | refine awp_seq ?_ | refine g_text ?_ | refine g_draw Tryd.mixed ?_ | refine awp_block ?_ | refine awp_skip ?_ | (refine awp_exit ?_; simp only [thenA, blockA, ↓reduceIte, Nat.reduceEqDiff, reduceCtorEq]))
        refine ⟨(ms, none), ⟨hs, hps, e2, e3, e4, e5⟩, ?_, ?_⟩
        · (simp only [go_sem, reduceIte, reduceCtorEq, Nat.reduceAdd, Nat.reduceSub, Nat.reduceEqDiff, Nat.reduceLT, Nat.reduceLeDiff, Nat.reduceMul, ↓reduceIte, Int.reduceToNat, Int.reduceBEq, Int.reduceBNe, Int.reduceEq, Int.reduceLT, Int.reduceLE, bookC, resO, atI, k1])
        · cases acc <;> cases ms <;> (simp only [rowS, cellS]; (simp only [go_sem, reduceIte, reduceCtorEq, Nat.reduceAdd, Nat.reduceSub, Nat.reduceEqDiff, Nat.reduceLT, Nat.reduceLeDiff, Nat.reduceMul, ↓reduceIte, Int.reduceToNat, Int.reduceBEq, Int.reduceBNe, Int.reduceEq, Int.reduceLT, Int.reduceLE, bookC, resO, atI, k1]))
    | some a =>
      have ha := hps a rfl
      by_cases hlt : i < n
      · have k1 := nlt hlt
        have k2 := wrap_succ hlt (by omega)
        obtain ⟨o, ho⟩ : ∃ o, takeO b (some a) 1 = o := ⟨_, rfl⟩
        have ht := w_rtake_con env b (some a) 1 hb (fun x hx => by have := hps x hx; omega) (by decide)
        rw [ho] at ht
        have hin := takeO_in ho
        obtain ⟨o2, ho2⟩ : ∃ o2, takeO b (o.map (·.2)) 4 = o2 := ⟨_, rfl⟩
        have ht2 := w_rtake_con env b (o.map (·.2)) 4 hb (fun x hx => by have := hin x hx; omega) (by decide)
        rw [ho2] at ht2
        have hn4 := takeO_lt ho2
        have hin2 := takeO_in ho2
        have hst : Stands T (o2.map (·.2)) (ms ++ [((numO o : Int), setOf (numO o2))]).length (fun x => pmems b (K2 b acc) (n - (i + 1)) x (ms ++ [((numO o : Int), setOf (numO o2))])) := by
          obtain ⟨h1, h2⟩ := hs
          have h1 : pmems b (K2 b acc) (n - i) a ms = T := h1
          have ho : pnum b a 1 = o := ho
          rw [show n - i = (n - (i + 1)) + 1 by omega, pmems, ho] at h1
          cases o with
          | none =>
            have : o2 = none := ho2.symm
            subst this
            exact h1.symm
          | some x =>
            have h1 : (pnum b x.2 4).bind _ = T := h1
            have ho2 : pnum b x.2 4 = o2 := ho2
            rw [ho2] at h1
            cases o2 with
            | none => exact h1.symm
            | some y => exact ⟨h1, by have := (pnum_le ho).2.1; have := (pnum_le ho2).2.1; simp only [List.length_append, List.length_cons, List.length_nil]; omega⟩
        have hal : ms.length ≤ a := hs.2
        have hf : Fits (ms.length + 1) 32 := ⟨by omega, by omega⟩
        have hsg := w_set_con env (numO o2) (by omega)
        unfold resO at ht ht2
        generalize numO o = v at *
        generalize numO o2 = v2 at *
        obtain ⟨p1, hp1⟩ : ∃ p, o.map (·.2) = p := ⟨_, rfl⟩
        obtain ⟨p2, hp2⟩ : ∃ p, o2.map (·.2) = p := ⟨_, rfl⟩
        rw [hp2] at hst hin2 ht2
        rw [hp1] at ht ht2
        cases ms with
        | nil =>
          repeat (first | refine aops_op' rfl (by simp only [go_sem, reduceIte, reduceCtorEq, Nat.reduceAdd, Nat.reduceSub, Nat.reduceEqDiff, Nat.reduceLT, Nat.reduceLeDiff, Nat.reduceMul, ↓reduceIte, Int.reduceToNat, Int.reduceBEq, Int.reduceBNe, Int.reduceEq, Int.reduceLT, Int.reduceLE, bookC, resO, atI, k1, k2, e2, e3, e4, e5, hf, rowS, cellS, memAV]; exact ⟨rfl, rfl⟩) ?_ | refine g_run ?_ | refine g_off ?_ | refine aops_nil (d_end ?_) | refine aops_nil ?_ | refine awp_seq ?_ | refine g_text ?_ | refine g_draw Tryd.mixed ?_ | refine awp_block ?_ | refine awp_skip ?_ | (refine awp_exit ?_; simp only [thenA, blockA, ↓reduceIte, Nat.reduceEqDiff, reduceCtorEq]))
          refine awp_yes' (by simp only [go_sem, reduceIte, reduceCtorEq, Nat.reduceAdd, Nat.reduceSub, Nat.reduceEqDiff, Nat.reduceLT, Nat.reduceLeDiff, Nat.reduceMul, ↓reduceIte, Int.reduceToNat, Int.reduceBEq, Int.reduceBNe, Int.reduceEq, Int.reduceLT, Int.reduceLE, bookC, resO, atI, k1, k2, e2, e3, e4, e5, hf, rowS, cellS, memAV]; exact Is.rfl') ?_
          repeat (first | refine aops_op' rfl (by simp only [go_sem, reduceIte, reduceCtorEq, Nat.reduceAdd, Nat.reduceSub, Nat.reduceEqDiff, Nat.reduceLT, Nat.reduceLeDiff, Nat.reduceMul, ↓reduceIte, Int.reduceToNat, Int.reduceBEq, Int.reduceBNe, Int.reduceEq, Int.reduceLT, Int.reduceLE, bookC, resO, atI, k1, k2, e2, e3, e4, e5, hf, rowS, cellS, memAV]; exact ⟨rfl, rfl⟩) ?_ | refine g_run ?_ | refine g_off ?_ | refine aops_nil (d_end ?_) | refine aops_nil ?_ | refine awp_seq ?_ | refine g_text ?_ | refine g_draw Tryd.mixed ?_ | refine awp_block ?_ | refine awp_skip ?_ | (refine awp_exit ?_; simp only [thenA, blockA, ↓reduceIte, Nat.reduceEqDiff, reduceCtorEq]))
          refine aops_call' rfl (ht) (by simp only [go_sem, reduceIte, reduceCtorEq, Nat.reduceAdd, Nat.reduceSub, Nat.reduceEqDiff, Nat.reduceLT, Nat.reduceLeDiff, Nat.reduceMul, ↓reduceIte, Int.reduceToNat, Int.reduceBEq, Int.reduceBNe, Int.reduceEq, Int.reduceLT, Int.reduceLE, bookC, resO, atI, k1, k2, e2, e3, e4, e5, hf, rowS, cellS, memAV]; exact Is.rfl') (by simp only [go_sem, reduceIte, reduceCtorEq, Nat.reduceAdd, Nat.reduceSub, Nat.reduceEqDiff, Nat.reduceLT, Nat.reduceLeDiff, Nat.reduceMul, ↓reduceIte, Int.reduceToNat, Int.reduceBEq, Int.reduceBNe, Int.reduceEq, Int.reduceLT, Int.reduceLE, bookC, resO, atI, k1, k2, e2, e3, e4, e5, hf, rowS, cellS, memAV]; exact ⟨rfl, rfl⟩) ?_
          repeat (first | refine aops_op' rfl (by simp only [go_sem, reduceIte, reduceCtorEq, Nat.reduceAdd, Nat.reduceSub, Nat.reduceEqDiff, Nat.reduceLT, Nat.reduceLeDiff, Nat.reduceMul, ↓reduceIte, Int.reduceToNat, Int.reduceBEq, Int.reduceBNe, Int.reduceEq, Int.reduceLT, Int.reduceLE, bookC, resO, atI, k1, k2, e2, e3, e4, e5, hf, rowS, cellS, memAV]; exact ⟨rfl, rfl⟩) ?_ | refine g_run ?_ | refine g_off ?_ | refine aops_nil (d_end ?_) | refine aops_nil ?_ | refine awp_seq ?_ | refine g_text ?_ | refine g_draw Tryd.mixed ?_ | refine awp_block ?_ | refine awp_skip ?_ | (refine awp_exit ?_; simp only [thenA, blockA, ↓reduceIte, Nat.reduceEqDiff, reduceCtorEq]))
          refine aops_call' rfl (ht2) (by simp only [go_sem, reduceIte, reduceCtorEq, Nat.reduceAdd, Nat.reduceSub, Nat.reduceEqDiff, Nat.reduceLT, Nat.reduceLeDiff, Nat.reduceMul, ↓reduceIte, Int.reduceToNat, Int.reduceBEq, Int.reduceBNe, Int.reduceEq, Int.reduceLT, Int.reduceLE, bookC, resO, atI, k1, k2, e2, e3, e4, e5, hf, rowS, cellS, memAV]; exact Is.rfl') (by simp only [go_sem, reduceIte, reduceCtorEq, Nat.reduceAdd, Nat.reduceSub, Nat.reduceEqDiff, Nat.reduceLT, Nat.reduceLeDiff, Nat.reduceMul, ↓reduceIte, Int.reduceToNat, Int.reduceBEq, Int.reduceBNe, Int.reduceEq, Int.reduceLT, Int.reduceLE, bookC, resO, atI, k1, k2, e2, e3, e4, e5, hf, rowS, cellS, memAV]; exact ⟨rfl, rfl⟩) ?_
          repeat (first | refine aops_op' rfl (by simp only [go_sem, reduceIte, reduceCtorEq, Nat.reduceAdd, Nat.reduceSub, Nat.reduceEqDiff, Nat.reduceLT, Nat.reduceLeDiff, Nat.reduceMul, ↓reduceIte, Int.reduceToNat, Int.reduceBEq, Int.reduceBNe, Int.reduceEq, Int.reduceLT, Int.reduceLE, bookC, resO, atI, k1, k2, e2, e3, e4, e5, hf, rowS, cellS, memAV]; exact ⟨rfl, rfl⟩) ?_ | refine g_run ?_ | refine g_off ?_ | refine aops_nil (d_end ?_) | refine aops_nil ?_ | refine awp_seq ?_ | refine g_text ?_ | refine g_draw Tryd.mixed ?_ | refine awp_block ?_ | refine awp_skip ?_ | (refine awp_exit ?_; simp only [thenA, blockA, ↓reduceIte, Nat.reduceEqDiff, reduceCtorEq]))
          refine aops_call' rfl (hsg) (by simp only [go_sem, reduceIte, reduceCtorEq, Nat.reduceAdd, Nat.reduceSub, Nat.reduceEqDiff, Nat.reduceLT, Nat.reduceLeDiff, Nat.reduceMul, ↓reduceIte, Int.reduceToNat, Int.reduceBEq, Int.reduceBNe, Int.reduceEq, Int.reduceLT, Int.reduceLE, bookC, resO, atI, k1, k2, e2, e3, e4, e5, hf, rowS, cellS, memAV]; exact Is.rfl') (by simp only [go_sem, reduceIte, reduceCtorEq, Nat.reduceAdd, Nat.reduceSub, Nat.reduceEqDiff, Nat.reduceLT, Nat.reduceLeDiff, Nat.reduceMul, ↓reduceIte, Int.reduceToNat, Int.reduceBEq, Int.reduceBNe, Int.reduceEq, Int.reduceLT, Int.reduceLE, bookC, resO, atI, k1, k2, e2, e3, e4, e5, hf, rowS, cellS, memAV]; exact ⟨rfl, rfl⟩) ?_
          repeat (first | refine aops_op' rfl (by simp only [go_sem, reduceIte, reduceCtorEq, Nat.reduceAdd, Nat.reduceSub, Nat.reduceEqDiff, Nat.reduceLT, Nat.reduceLeDiff, Nat.reduceMul, ↓reduceIte, Int.reduceToNat, Int.reduceBEq, Int.reduceBNe, Int.reduceEq, Int.reduceLT, Int.reduceLE, bookC, resO, atI, k1, k2, e2, e3, e4, e5, hf, rowS, cellS, memAV]; exact ⟨rfl, rfl⟩) ?_ | refine g_run ?_ | refine g_off ?_ | refine aops_nil (d_end ?_) | refine aops_nil ?_ | refine awp_seq ?_ | refine g_text ?_ | refine g_draw Tryd.mixed ?_ | refine awp_block ?_ | refine awp_skip ?_ | (refine awp_exit ?_; simp only [thenA, blockA, ↓reduceIte, Nat.reduceEqDiff, reduceCtorEq]))
          refine ⟨(i + 1, [] ++ [((v : Int), setOf v2)], p2), ⟨hlt, ?_, hin2, ?_⟩, ?_, ?_, ?_⟩
          · exact hst
          · simp only [go_sem, reduceIte, reduceCtorEq, Nat.reduceAdd, Nat.reduceSub, Nat.reduceEqDiff, Nat.reduceLT, Nat.reduceLeDiff, Nat.reduceMul, ↓reduceIte, Int.reduceToNat, Int.reduceBEq, Int.reduceBNe, Int.reduceEq, Int.reduceLT, Int.reduceLE, e2, e3, e4, e5]
          · (simp only [go_sem, reduceIte, reduceCtorEq, Nat.reduceAdd, Nat.reduceSub, Nat.reduceEqDiff, Nat.reduceLT, Nat.reduceLeDiff, Nat.reduceMul, ↓reduceIte, Int.reduceToNat, Int.reduceBEq, Int.reduceBNe, Int.reduceEq, Int.reduceLT, Int.reduceLE, bookC, resO, atI, k1, k2, e2, e3, e4, e5, hf, rowS, cellS, memAV])
          · cases acc <;> (simp only [List.nil_append, rowS, cellS]; (simp only [go_sem, reduceIte, reduceCtorEq, Nat.reduceAdd, Nat.reduceSub, Nat.reduceEqDiff, Nat.reduceLT, Nat.reduceLeDiff, Nat.reduceMul, ↓reduceIte, Int.reduceToNat, Int.reduceBEq, Int.reduceBNe, Int.reduceEq, Int.reduceLT, Int.reduceLE, bookC, resO, atI, k1, k2, e2, e3, e4, e5, hf, rowS, cellS, memAV]))
          · simp only; omega
        | cons y r =>
          have hf2 : Fits (r.length + 1 + 1) 32 := hf
          repeat (first | refine aops_op' rfl (by simp only [go_sem, reduceIte, reduceCtorEq, Nat.reduceAdd, Nat.reduceSub, Nat.reduceEqDiff, Nat.reduceLT, Nat.reduceLeDiff, Nat.reduceMul, ↓reduceIte, Int.reduceToNat, Int.reduceBEq, Int.reduceBNe, Int.reduceEq, Int.reduceLT, Int.reduceLE, bookC, resO, atI, k1, k2, e2, e3, e4, e5, hf2, rowS, cellS, memAV]; exact ⟨rfl, rfl⟩) ?_ | refine g_run ?_ | refine g_off ?_ | refine aops_nil (d_end ?_) | refine aops_nil ?_ | refine awp_seq ?_ | refine g_text ?_ | refine g_draw Tryd.mixed ?_ | refine awp_block ?_ | refine awp_skip ?_ | (refine awp_exit ?_; simp only [thenA, blockA, ↓reduceIte, Nat.reduceEqDiff, reduceCtorEq]))
          refine awp_yes' (by simp only [go_sem, reduceIte, reduceCtorEq, Nat.reduceAdd, Nat.reduceSub, Nat.reduceEqDiff, Nat.reduceLT, Nat.reduceLeDiff, Nat.reduceMul, ↓reduceIte, Int.reduceToNat, Int.reduceBEq, Int.reduceBNe, Int.reduceEq, Int.reduceLT, Int.reduceLE, bookC, resO, atI, k1, k2, e2, e3, e4, e5, hf2, rowS, cellS, memAV]; exact Is.rfl') ?_
          repeat (first | refine aops_op' rfl (by simp only [go_sem, reduceIte, reduceCtorEq, Nat.reduceAdd, Nat.reduceSub, Nat.reduceEqDiff, Nat.reduceLT, Nat.reduceLeDiff, Nat.reduceMul, ↓reduceIte, Int.reduceToNat, Int.reduceBEq, Int.reduceBNe, Int.reduceEq, Int.reduceLT, Int.reduceLE, bookC, resO, atI, k1, k2, e2, e3, e4, e5, hf2, rowS, cellS, memAV]; exact ⟨rfl, rfl⟩) ?_ | refine g_run ?_ | refine g_off ?_ | refine aops_nil (d_end ?_) | refine aops_nil ?_ | refine awp_seq ?_ | refine g_text ?_ | refine g_draw Tryd.mixed ?_ | refine awp_block ?_ | refine awp_skip ?_ | (refine awp_exit ?_; simp only [thenA, blockA, ↓reduceIte, Nat.reduceEqDiff, reduceCtorEq]))
          refine aops_call' rfl (ht) (by simp only [go_sem, reduceIte, reduceCtorEq, Nat.reduceAdd, Nat.reduceSub, Nat.reduceEqDiff, Nat.reduceLT, Nat.reduceLeDiff, Nat.reduceMul, ↓reduceIte, Int.reduceToNat, Int.reduceBEq, Int.reduceBNe, Int.reduceEq, Int.reduceLT, Int.reduceLE, bookC, resO, atI, k1, k2, e2, e3, e4, e5, hf2, rowS, cellS, memAV]; exact Is.rfl') (by simp only [go_sem, reduceIte, reduceCtorEq, Nat.reduceAdd, Nat.reduceSub, Nat.reduceEqDiff, Nat.reduceLT, Nat.reduceLeDiff, Nat.reduceMul, ↓reduceIte, Int.reduceToNat, Int.reduceBEq, Int.reduceBNe, Int.reduceEq, Int.reduceLT, Int.reduceLE, bookC, resO, atI, k1, k2, e2, e3, e4, e5, hf2, rowS, cellS, memAV]; exact ⟨rfl, rfl⟩) ?_
          repeat (first | refine aops_op' rfl (by simp only [go_sem, reduceIte, reduceCtorEq, Nat.reduceAdd, Nat.reduceSub, Nat.reduceEqDiff, Nat.reduceLT, Nat.reduceLeDiff, Nat.reduceMul, ↓reduceIte, Int.reduceToNat, Int.reduceBEq, Int.reduceBNe, Int.reduceEq, Int.reduceLT, Int.reduceLE, bookC, resO, atI, k1, k2, e2, e3, e4, e5, hf2, rowS, cellS, memAV]; exact ⟨rfl, rfl⟩) ?_ | refine g_run ?_ | refine g_off ?_ | refine aops_nil (d_end ?_) | refine aops_nil ?_ | refine awp_seq ?_ | refine g_text ?_ | refine g_draw Tryd.mixed ?_ | refine awp_block ?_ | refine awp_skip ?_ | (refine awp_exit ?_; simp only [thenA, blockA, ↓reduceIte, Nat.reduceEqDiff, reduceCtorEq]))
          refine aops_call' rfl (ht2) (by simp only [go_sem, reduceIte, reduceCtorEq, Nat.reduceAdd, Nat.reduceSub, Nat.reduceEqDiff, Nat.reduceLT, Nat.reduceLeDiff, Nat.reduceMul, ↓reduceIte, Int.reduceToNat, Int.reduceBEq, Int.reduceBNe, Int.reduceEq, Int.reduceLT, Int.reduceLE, bookC, resO, atI, k1, k2, e2, e3, e4, e5, hf2, rowS, cellS, memAV]; exact Is.rfl') (by simp only [go_sem, reduceIte, reduceCtorEq, Nat.reduceAdd, Nat.reduceSub, Nat.reduceEqDiff, Nat.reduceLT, Nat.reduceLeDiff, Nat.reduceMul, ↓reduceIte, Int.reduceToNat, Int.reduceBEq, Int.reduceBNe, Int.reduceEq, Int.reduceLT, Int.reduceLE, bookC, resO, atI, k1, k2, e2, e3, e4, e5, hf2, rowS, cellS, memAV]; exact ⟨rfl, rfl⟩) ?_
          repeat (first | refine aops_op' rfl (by simp only [go_sem, reduceIte, reduceCtorEq, Nat.reduceAdd, Nat.reduceSub, Nat.reduceEqDiff, Nat.reduceLT, Nat.reduceLeDiff, Nat.reduceMul, ↓reduceIte, Int.reduceToNat, Int.reduceBEq, Int.reduceBNe, Int.reduceEq, Int.reduceLT, Int.reduceLE, bookC, resO, atI, k1, k2, e2, e3, e4, e5, hf2, rowS, cellS, memAV]; exact ⟨rfl, rfl⟩) ?_ | refine g_run ?_ | refine g_off ?_ | refine aops_nil (d_end ?_) | refine aops_nil ?_ | refine awp_seq ?_ | refine g_text ?_ | refine g_draw Tryd.mixed ?_ | refine awp_block ?_ | refine awp_skip ?_ | (refine awp_exit ?_; simp only [thenA, blockA, ↓reduceIte, Nat.reduceEqDiff, reduceCtorEq]))
          refine aops_call' rfl (hsg) (by simp only [go_sem, reduceIte, reduceCtorEq, Nat.reduceAdd, Nat.reduceSub, Nat.reduceEqDiff, Nat.reduceLT, Nat.reduceLeDiff, Nat.reduceMul, ↓reduceIte, Int.reduceToNat, Int.reduceBEq, Int.reduceBNe, Int.reduceEq, Int.reduceLT, Int.reduceLE, bookC, resO, atI, k1, k2, e2, e3, e4, e5, hf2, rowS, cellS, memAV]; exact Is.rfl') (by simp only [go_sem, reduceIte, reduceCtorEq, Nat.reduceAdd, Nat.reduceSub, Nat.reduceEqDiff, Nat.reduceLT, Nat.reduceLeDiff, Nat.reduceMul, ↓reduceIte, Int.reduceToNat, Int.reduceBEq, Int.reduceBNe, Int.reduceEq, Int.reduceLT, Int.reduceLE, bookC, resO, atI, k1, k2, e2, e3, e4, e5, hf2, rowS, cellS, memAV]; exact ⟨rfl, rfl⟩) ?_
          repeat (first | refine aops_op' rfl (by simp only [go_sem, reduceIte, reduceCtorEq, Nat.reduceAdd, Nat.reduceSub, Nat.reduceEqDiff, Nat.reduceLT, Nat.reduceLeDiff, Nat.reduceMul, ↓reduceIte, Int.reduceToNat, Int.reduceBEq, Int.reduceBNe, Int.reduceEq, Int.reduceLT, Int.reduceLE, bookC, resO, atI, k1, k2, e2, e3, e4, e5, hf2, rowS, cellS, memAV]; exact ⟨rfl, rfl⟩) ?_ | refine g_run ?_ | refine g_off ?_ | refine aops_nil (d_end ?_) | refine aops_nil ?_ | refine awp_seq ?_ | refine g_text ?_ | refine g_draw Tryd.mixed ?_ | refine awp_block ?_ | refine awp_skip ?_ | (refine awp_exit ?_; simp only [thenA, blockA, ↓reduceIte, Nat.reduceEqDiff, reduceCtorEq]))
          refine ⟨(i + 1, y :: r ++ [((v : Int), setOf v2)], p2), ⟨hlt, ?_, hin2, ?_⟩, ?_, ?_, ?_⟩
          · exact hst
          · simp only [go_sem, reduceIte, reduceCtorEq, Nat.reduceAdd, Nat.reduceSub, Nat.reduceEqDiff, Nat.reduceLT, Nat.reduceLeDiff, Nat.reduceMul, ↓reduceIte, Int.reduceToNat, Int.reduceBEq, Int.reduceBNe, Int.reduceEq, Int.reduceLT, Int.reduceLE, e2, e3, e4, e5]
          · (simp only [go_sem, reduceIte, reduceCtorEq, Nat.reduceAdd, Nat.reduceSub, Nat.reduceEqDiff, Nat.reduceLT, Nat.reduceLeDiff, Nat.reduceMul, ↓reduceIte, Int.reduceToNat, Int.reduceBEq, Int.reduceBNe, Int.reduceEq, Int.reduceLT, Int.reduceLE, bookC, resO, atI, k1, k2, e2, e3, e4, e5, hf2, rowS, cellS, memAV])
          · cases acc <;> (simp only [List.cons_append, rowS, cellS]; (simp only [go_sem, reduceIte, reduceCtorEq, Nat.reduceAdd, Nat.reduceSub, Nat.reduceEqDiff, Nat.reduceLT, Nat.reduceLeDiff, Nat.reduceMul, ↓reduceIte, Int.reduceToNat, Int.reduceBEq, Int.reduceBNe, Int.reduceEq, Int.reduceLT, Int.reduceLE, bookC, resO, atI, k1, k2, e2, e3, e4, e5, hf2, rowS, cellS, memAV]); simp [memAV])
          · simp only; omega
      · have k1 : ¬ (i : Int) < (n : Int) := by omega
        have hs' : Stands T (some a) 0 (fun x => K2 b acc ms x) := by
          obtain ⟨h1, h2⟩ := hs
          have h1 : pmems b (K2 b acc) (n - i) a ms = T := h1
          rw [show n - i = 0 by omega] at h1
          exact ⟨h1, Nat.zero_le _⟩
        repeat (first | refine aops_op' rfl (by simp only [go_sem, reduceIte, reduceCtorEq, Nat.reduceAdd, Nat.reduceSub, Nat.reduceEqDiff, Nat.reduceLT, Nat.reduceLeDiff, Nat.reduceMul, ↓reduceIte, Int.reduceToNat, Int.reduceBEq, Int.reduceBNe, Int.reduceEq, Int.reduceLT, Int.reduceLE, bookC, resO, atI, k1]; exact ⟨rfl, rfl⟩) ?_ | refine g_run ?_ | refine g_off ?_ | refine aops_nil (d_end ?_) | refine aops_nil ?_ | refine awp_seq ?_ | refine g_text ?_ | refine g_draw Tryd.mixed ?_ | refine awp_block ?_ | refine awp_skip ?_ | (refine awp_exit ?_; simp only [thenA, blockA, ↓reduceIte, Nat.reduceEqDiff, reduceCtorEq]))
        refine awp_no' (by simp only [go_sem, reduceIte, reduceCtorEq, Nat.reduceAdd, Nat.reduceSub, Nat.reduceEqDiff, Nat.reduceLT, Nat.reduceLeDiff, Nat.reduceMul, ↓reduceIte, Int.reduceToNat, Int.reduceBEq, Int.reduceBNe, Int.reduceEq, Int.reduceLT, Int.reduceLE, bookC, resO, atI, k1]; exact Is.rfl') ?_
        repeat (first | refine aops_op' rfl (by simp only [go_sem, reduceIte, reduceCtorEq, Nat.reduceAdd, Nat.reduceSub, Nat.reduceEqDiff, Nat.reduceLT, Nat.reduceLeDiff, Nat.reduceMul, ↓reduceIte, Int.reduceToNat, Int.reduceBEq, Int.reduceBNe, Int.reduceEq, Int.reduceLT, Int.reduceLE, bookC, resO, atI, k1]; exact ⟨rfl, rfl⟩) ?_ | refine g_run ?_ | refine g_off ?_ | refine aops_nil (d_end ?_) | refine aops_nil ?_ | refine awp_seq ?_ | refine g_text ?_ | refine g_draw Tryd.mixed ?_ | refine awp_block ?_ | refine awp_skip ?_ | (refine awp_exit ?_; simp only [thenA, blockA, ↓reduceIte, Nat.reduceEqDiff, reduceCtorEq]))
        refine ⟨(ms, some a), ⟨hs', hps, e2, e3, e4, e5⟩, ?_, ?_⟩
        · (simp only [go_sem, reduceIte, reduceCtorEq, Nat.reduceAdd, Nat.reduceSub, Nat.reduceEqDiff, Nat.reduceLT, Nat.reduceLeDiff, Nat.reduceMul, ↓reduceIte, Int.reduceToNat, Int.reduceBEq, Int.reduceBNe, Int.reduceEq, Int.reduceLT, Int.reduceLE, bookC, resO, atI, k1])
        · cases acc <;> cases ms <;> (simp only [rowS, cellS]; (simp only [go_sem, reduceIte, reduceCtorEq, Nat.reduceAdd, Nat.reduceSub, Nat.reduceEqDiff, Nat.reduceLT, Nat.reduceLeDiff, Nat.reduceMul, ↓reduceIte, Int.reduceToNat, Int.reduceBEq, Int.reduceBNe, Int.reduceEq, Int.reduceLT, Int.reduceLE, bookC, resO, atI, k1]))
  refine awp_loopH (D := Nat × List Int × Option Nat) (fun d vs => [(2, .loc 2 (vs 2) 0 0), (3, .loc 3 (vs 3) 0 0), (4, .loc 4 (vs 4) 0 0), (5, .loc 5 (vs 5) 0 0), (6, I n), (8, I d.1)])
    (fun d vs => [(2, ⟨2, [bookC b d.2.2], 141, false⟩), (3, ⟨5, [[Il ac, cellS d.2.1 41 (vs 41), nilS, nilS, B over]], 50, false⟩), (4, ⟨2, [[nilS, I 0]], 141, false⟩), (5, ⟨5, [[nilS, nilS, nilS, nilS, B false]], 50, false⟩)] ++ rowS d.2.1 41 ⟨1, d.2.1.map iAV, 3, true⟩)
    (fun d _ esc => d.1 ≤ n ∧ Stands T d.2.2 d.2.1.length (fun a => pvars b (K1 b) (n - d.1) a d.2.1) ∧ (∀ x, d.2.2 = some x → x ≤ b.length) ∧ esc 2 = false ∧ esc 3 = false ∧ esc 4 = false ∧ esc 5 = false) (fun d => n - d.1) (0, [], p0) ?_ ?_ ?_ ?_
  · exact ⟨Nat.zero_le _, hst, hps, rfl, rfl, rfl, rfl⟩
  · (simp only [go_sem, reduceIte, reduceCtorEq, Nat.reduceAdd, Nat.reduceSub, Nat.reduceEqDiff, Nat.reduceLT, Nat.reduceLeDiff, Nat.reduceMul, ↓reduceIte, Int.reduceToNat, Int.reduceBEq, Int.reduceBNe, Int.reduceEq, Int.reduceLT, Int.reduceLE, bookC, resO])
  · simp only [rowS, cellS]
    (simp only [go_sem, reduceIte, reduceCtorEq, Nat.reduceAdd, Nat.reduceSub, Nat.reduceEqDiff, Nat.reduceLT, Nat.reduceLeDiff, Nat.reduceMul, ↓reduceIte, Int.reduceToNat, Int.reduceBEq, Int.reduceBNe, Int.reduceEq, Int.reduceLT, Int.reduceLE, bookC, resO])
  rintro ⟨i, acc, pos⟩ vs esc ⟨hi, hs, hps, e2, e3, e4, e5⟩
  simp only at hi hs hps
  cases pos with
  | none =>
    by_cases hlt : i < n
    · have k1 := nlt hlt
      repeat (first | refine aops_op' rfl (by simp only [go_sem, reduceIte, reduceCtorEq, Nat.reduceAdd, Nat.reduceSub, Nat.reduceEqDiff, Nat.reduceLT, Nat.reduceLeDiff, Nat.reduceMul, ↓reduceIte, Int.reduceToNat, Int.reduceBEq, Int.reduceBNe, Int.reduceEq, Int.reduceLT, Int.reduceLE, bookC, resO, atI, k1]; exact ⟨rfl, rfl⟩) ?_ | refine g_run ?_ | refine g_off ?_ | refine aops_nil (d_end ?_) | refine aops_nil ?_ | refine awp_seq ?_ | refine g_text ?_ | refine g_draw Tryd.mixed ?_ | refine awp_block ?_ | refine awp_skip ?_ | (refine awp_exit ?_; simp only [thenA, blockA, ↓reduceIte, Nat.reduceEqDiff, reduceCtorEq]))
      refine awp_no' (by simp only [go_sem, reduceIte, reduceCtorEq, Nat.reduceAdd, Nat.reduceSub, Nat.reduceEqDiff, Nat.reduceLT, Nat.reduceLeDiff, Nat.reduceMul, ↓reduceIte, Int.reduceToNat, Int.reduceBEq, Int.reduceBNe, Int.reduceEq, Int.reduceLT, Int.reduceLE, bookC, resO, atI, k1]; exact Is.rfl') ?_
      repeat (first | refine aops_op' rfl (by simp only [go_sem, reduceIte, reduceCtorEq, Nat.reduceAdd, Nat.reduceSub, Nat.reduceEqDiff, Nat.reduceLT, Nat.reduceLeDiff, Nat.reduceMul, ↓reduceIte, Int.reduceToNat, Int.reduceBEq, Int.reduceBNe, Int.reduceEq, Int.reduceLT, Int.reduceLE, bookC, resO, atI, k1]; exact ⟨rfl, rfl⟩) ?_ | refine g_run ?_ | refine g_off ?_ | refine aops_nil (d_end ?_) | refine aops_nil ?_ | refine awp_seq ?_ | refine g_text ?_ | refine g_draw Tryd.mixed ?_ | refine awp_block ?_ | refine awp_skip ?_ | (refine awp_exit ?_; simp only [thenA, blockA, ↓reduceIte, Nat.reduceEqDiff, reduceCtorEq]))
      refine ⟨(acc, none), ⟨hs, hps, e2, e3, e4, e5⟩, ?_, ?_⟩
      · (simp only [go_sem, reduceIte, reduceCtorEq, Nat.reduceAdd, Nat.reduceSub, Nat.reduceEqDiff, Nat.reduceLT, Nat.reduceLeDiff, Nat.reduceMul, ↓reduceIte, Int.reduceToNat, Int.reduceBEq, Int.reduceBNe, Int.reduceEq, Int.reduceLT, Int.reduceLE, bookC, resO, atI, k1])
      · cases acc <;> (simp only [rowS, cellS]; (simp only [go_sem, reduceIte, reduceCtorEq, Nat.reduceAdd, Nat.reduceSub, Nat.reduceEqDiff, Nat.reduceLT, Nat.reduceLeDiff, Nat.reduceMul, ↓reduceIte, Int.reduceToNat, Int.reduceBEq, Int.reduceBNe, Int.reduceEq, Int.reduceLT, Int.reduceLE, bookC, resO, atI, k1]))
    · have k1 : ¬ (i : Int) < (n : Int) := by omega
      repeat (first | refine aops_op' rfl (by simp only [go_sem, reduceIte, reduceCtorEq, Nat.reduceAdd, Nat.reduceSub, Nat.reduceEqDiff, Nat.reduceLT, Nat.reduceLeDiff, Nat.reduceMul, ↓reduceIte, Int.reduceToNat, Int.reduceBEq, Int.reduceBNe, Int.reduceEq, Int.reduceLT, Int.reduceLE, bookC, resO, atI, k1]; exact ⟨rfl, rfl⟩) ?_ | refine g_run ?_ | refine g_off ?_ | refine aops_nil (d_end ?_) | refine aops_nil ?_ | refine awp_seq ?_ | refine g_text ?_ | refine g_draw Tryd.mixed ?_ | refine awp_block ?_ | refine awp_skip ?_ | (refine awp_exit ?_; simp only [thenA, blockA, ↓reduceIte, Nat.reduceEqDiff, reduceCtorEq]))
      refine awp_no' (by simp only [go_sem, reduceIte, reduceCtorEq, Nat.reduceAdd, Nat.reduceSub, Nat.reduceEqDiff, Nat.reduceLT, Nat.reduceLeDiff, Nat.reduceMul, ↓reduceIte, Int.reduceToNat, Int.reduceBEq, Int.reduceBNe, Int.reduceEq, Int.reduceLT, Int.reduceLE, bookC, resO, atI, k1]; exact Is.rfl') ?_
      repeat (first | refine aops_op' rfl (by simp only [go_sem, reduceIte, reduceCtorEq, Nat.reduceAdd, Nat.reduceSub, Nat.reduceEqDiff, Nat.reduceLT, Nat.reduceLeDiff, Nat.reduceMul, ↓reduceIte, Int.reduceToNat, Int.reduceBEq, Int.reduceBNe, Int.reduceEq, Int.reduceLT, Int.reduceLE, bookC, resO, atI, k1]; exact ⟨rfl, rfl⟩) ?_ | refine g_run ?_ | refine g_off ?_ | refine aops_nil (d_end ?_) | refine aops_nil ?_ | refine awp_seq ?_ | refine g_text ?_ | refine g_draw Tryd.mixed ?_ | refine awp_block ?_ | refine awp_skip ?_ | (refine awp_exit ?_; simp only [thenA, blockA, ↓reduceIte, Nat.reduceEqDiff, reduceCtorEq]))
      refine ⟨(acc, none), ⟨hs, hps, e2, e3, e4, e5⟩, ?_, ?_⟩
      · (simp only [go_sem, reduceIte, reduceCtorEq, Nat.reduceAdd, Nat.reduceSub, Nat.reduceEqDiff, Nat.reduceLT, Nat.reduceLeDiff, Nat.reduceMul, ↓reduceIte, Int.reduceToNat, Int.reduceBEq, Int.reduceBNe, Int.reduceEq, Int.reduceLT, Int.reduceLE, bookC, resO, atI, k1])
      · cases acc <;> (simp only [rowS, cellS]; (simp only [go_sem, reduceIte, reduceCtorEq, Nat.reduceAdd, Nat.reduceSub, Nat.reduceEqDiff, Nat.reduceLT, Nat.reduceLeDiff, Nat.reduceMul, ↓reduceIte, Int.reduceToNat, Int.reduceBEq, Int.reduceBNe, Int.reduceEq, Int.reduceLT, Int.reduceLE, bookC, resO, atI, k1]))
  | some a =>
    have ha := hps a rfl
    by_cases hlt : i < n
    · have k1 := nlt hlt
      have k2 := wrap_succ hlt (by omega)
      obtain ⟨o, ho⟩ : ∃ o, takeO b (some a) 4 = o := ⟨_, rfl⟩
      have ht := w_rtake_con env b (some a) 4 hb (fun x hx => by have := hps x hx; omega) (by decide)
      rw [ho] at ht
      have hn4 := takeO_lt ho
      have hin := takeO_in ho
      have hst : Stands T (o.map (·.2)) (acc ++ [unfoldI (numO o)]).length (fun x => pvars b (K1 b) (n - (i + 1)) x (acc ++ [unfoldI (numO o)])) := by
        obtain ⟨h1, h2⟩ := hs
        have h1 : pvars b (K1 b) (n - i) a acc = T := h1
        have ho : pnum b a 4 = o := ho
        rw [show n - i = (n - (i + 1)) + 1 by omega, pvars, ho] at h1
        cases o with
        | none => exact h1.symm
        | some x => exact ⟨h1, by have := (pnum_le ho).2.1; simp only [List.length_append, List.length_cons, List.length_nil]; omega⟩
      have hal : acc.length ≤ a := hs.2
      have hf : Fits (acc.length + 1) 8 := ⟨by omega, by omega⟩
      have hsg := w_signed_con env (numO o) (by omega)
      unfold resO at ht
      generalize numO o = v at *
      obtain ⟨p1, hp1⟩ : ∃ p, o.map (·.2) = p := ⟨_, rfl⟩
      rw [hp1] at hst hin ht
      clear ho hp1 o
      cases acc with
      | nil =>
        repeat (first | refine aops_op' rfl (by simp only [go_sem, reduceIte, reduceCtorEq, Nat.reduceAdd, Nat.reduceSub, Nat.reduceEqDiff, Nat.reduceLT, Nat.reduceLeDiff, Nat.reduceMul, ↓reduceIte, Int.reduceToNat, Int.reduceBEq, Int.reduceBNe, Int.reduceEq, Int.reduceLT, Int.reduceLE, bookC, resO, atI, k1, k2, e2, e3, e4, e5, hf, rowS, cellS, iAV]; exact ⟨rfl, rfl⟩) ?_ | refine g_run ?_ | refine g_off ?_ | refine aops_nil (d_end ?_) | refine aops_nil ?_ | refine awp_seq ?_ | refine g_text ?_ | refine g_draw Tryd.mixed ?_ | refine awp_block ?_ | refine awp_skip ?_ | (refine awp_exit ?_; simp only [thenA, blockA, ↓reduceIte, Nat.reduceEqDiff, reduceCtorEq]))
        refine awp_yes' (by simp only [go_sem, reduceIte, reduceCtorEq, Nat.reduceAdd, Nat.reduceSub, Nat.reduceEqDiff, Nat.reduceLT, Nat.reduceLeDiff, Nat.reduceMul, ↓reduceIte, Int.reduceToNat, Int.reduceBEq, Int.reduceBNe, Int.reduceEq, Int.reduceLT, Int.reduceLE, bookC, resO, atI, k1, k2, e2, e3, e4, e5, hf, rowS, cellS, iAV]; exact Is.rfl') ?_
        repeat (first | refine aops_op' rfl (by simp only [go_sem, reduceIte, reduceCtorEq, Nat.reduceAdd, Nat.reduceSub, Nat.reduceEqDiff, Nat.reduceLT, Nat.reduceLeDiff, Nat.reduceMul, ↓reduceIte, Int.reduceToNat, Int.reduceBEq, Int.reduceBNe, Int.reduceEq, Int.reduceLT, Int.reduceLE, bookC, resO, atI, k1, k2, e2, e3, e4, e5, hf, rowS, cellS, iAV]; exact ⟨rfl, rfl⟩) ?_ | refine g_run ?_ | refine g_off ?_ | refine aops_nil (d_end ?_) | refine aops_nil ?_ | refine awp_seq ?_ | refine g_text ?_ | refine g_draw Tryd.mixed ?_ | refine awp_block ?_ | refine awp_skip ?_ | (refine awp_exit ?_; simp only [thenA, blockA, ↓reduceIte, Nat.reduceEqDiff, reduceCtorEq]))
        refine aops_call' rfl (ht) (by simp only [go_sem, reduceIte, reduceCtorEq, Nat.reduceAdd, Nat.reduceSub, Nat.reduceEqDiff, Nat.reduceLT, Nat.reduceLeDiff, Nat.reduceMul, ↓reduceIte, Int.reduceToNat, Int.reduceBEq, Int.reduceBNe, Int.reduceEq, Int.reduceLT, Int.reduceLE, bookC, resO, atI, k1, k2, e2, e3, e4, e5, hf, rowS, cellS, iAV]; exact Is.rfl') (by simp only [go_sem, reduceIte, reduceCtorEq, Nat.reduceAdd, Nat.reduceSub, Nat.reduceEqDiff, Nat.reduceLT, Nat.reduceLeDiff, Nat.reduceMul, ↓reduceIte, Int.reduceToNat, Int.reduceBEq, Int.reduceBNe, Int.reduceEq, Int.reduceLT, Int.reduceLE, bookC, resO, atI, k1, k2, e2, e3, e4, e5, hf, rowS, cellS, iAV]; exact ⟨rfl, rfl⟩) ?_
        repeat (first | refine aops_op' rfl (by simp only [go_sem, reduceIte, reduceCtorEq, Nat.reduceAdd, Nat.reduceSub, Nat.reduceEqDiff, Nat.reduceLT, Nat.reduceLeDiff, Nat.reduceMul, ↓reduceIte, Int.reduceToNat, Int.reduceBEq, Int.reduceBNe, Int.reduceEq, Int.reduceLT, Int.reduceLE, bookC, resO, atI, k1, k2, e2, e3, e4, e5, hf, rowS, cellS, iAV]; exact ⟨rfl, rfl⟩) ?_ | refine g_run ?_ | refine g_off ?_ | refine aops_nil (d_end ?_) | refine aops_nil ?_ | refine awp_seq ?_ | refine g_text ?_ | refine g_draw Tryd.mixed ?_ | refine awp_block ?_ | refine awp_skip ?_ | (refine awp_exit ?_; simp only [thenA, blockA, ↓reduceIte, Nat.reduceEqDiff, reduceCtorEq]))
        refine aops_call' rfl (hsg) (by simp only [go_sem, reduceIte, reduceCtorEq, Nat.reduceAdd, Nat.reduceSub, Nat.reduceEqDiff, Nat.reduceLT, Nat.reduceLeDiff, Nat.reduceMul, ↓reduceIte, Int.reduceToNat, Int.reduceBEq, Int.reduceBNe, Int.reduceEq, Int.reduceLT, Int.reduceLE, bookC, resO, atI, k1, k2, e2, e3, e4, e5, hf, rowS, cellS, iAV]; exact Is.rfl') (by simp only [go_sem, reduceIte, reduceCtorEq, Nat.reduceAdd, Nat.reduceSub, Nat.reduceEqDiff, Nat.reduceLT, Nat.reduceLeDiff, Nat.reduceMul, ↓reduceIte, Int.reduceToNat, Int.reduceBEq, Int.reduceBNe, Int.reduceEq, Int.reduceLT, Int.reduceLE, bookC, resO, atI, k1, k2, e2, e3, e4, e5, hf, rowS, cellS, iAV]; exact ⟨rfl, rfl⟩) ?_
        repeat (first | refine aops_op' rfl (by simp only [go_sem, reduceIte, reduceCtorEq, Nat.reduceAdd, Nat.reduceSub, Nat.reduceEqDiff, Nat.reduceLT, Nat.reduceLeDiff, Nat.reduceMul, ↓reduceIte, Int.reduceToNat, Int.reduceBEq, Int.reduceBNe, Int.reduceEq, Int.reduceLT, Int.reduceLE, bookC, resO, atI, k1, k2, e2, e3, e4, e5, hf, rowS, cellS, iAV]; exact ⟨rfl, rfl⟩) ?_ | refine g_run ?_ | refine g_off ?_ | refine aops_nil (d_end ?_) | refine aops_nil ?_ | refine awp_seq ?_ | refine g_text ?_ | refine g_draw Tryd.mixed ?_ | refine awp_block ?_ | refine awp_skip ?_ | (refine awp_exit ?_; simp only [thenA, blockA, ↓reduceIte, Nat.reduceEqDiff, reduceCtorEq]))
        refine ⟨(i + 1, [] ++ [unfoldI v], p1), ⟨hlt, ?_, hin, ?_⟩, ?_, ?_, ?_⟩
        · exact hst
        · simp only [go_sem, reduceIte, reduceCtorEq, Nat.reduceAdd, Nat.reduceSub, Nat.reduceEqDiff, Nat.reduceLT, Nat.reduceLeDiff, Nat.reduceMul, ↓reduceIte, Int.reduceToNat, Int.reduceBEq, Int.reduceBNe, Int.reduceEq, Int.reduceLT, Int.reduceLE, e2, e3, e4, e5]
        · (simp only [go_sem, reduceIte, reduceCtorEq, Nat.reduceAdd, Nat.reduceSub, Nat.reduceEqDiff, Nat.reduceLT, Nat.reduceLeDiff, Nat.reduceMul, ↓reduceIte, Int.reduceToNat, Int.reduceBEq, Int.reduceBNe, Int.reduceEq, Int.reduceLT, Int.reduceLE, bookC, resO, atI, k1, k2, e2, e3, e4, e5, hf, rowS, cellS, iAV])
        · simp only [List.nil_append, rowS, cellS]
          (simp only [go_sem, reduceIte, reduceCtorEq, Nat.reduceAdd, Nat.reduceSub, Nat.reduceEqDiff, Nat.reduceLT, Nat.reduceLeDiff, Nat.reduceMul, ↓reduceIte, Int.reduceToNat, Int.reduceBEq, Int.reduceBNe, Int.reduceEq, Int.reduceLT, Int.reduceLE, bookC, resO, atI, k1, k2, e2, e3, e4, e5, hf, rowS, cellS, iAV])
        · simp only; omega
      | cons y r =>
        have hf2 : Fits (r.length + 1 + 1) 8 := hf
        repeat (first | refine aops_op' rfl (by simp only [go_sem, reduceIte, reduceCtorEq, Nat.reduceAdd, Nat.reduceSub, Nat.reduceEqDiff, Nat.reduceLT, Nat.reduceLeDiff, Nat.reduceMul, ↓reduceIte, Int.reduceToNat, Int.reduceBEq, Int.reduceBNe, Int.reduceEq, Int.reduceLT, Int.reduceLE, bookC, resO, atI, k1, k2, e2, e3, e4, e5, hf2, rowS, cellS, iAV]; exact ⟨rfl, rfl⟩) ?_ | refine g_run ?_ | refine g_off ?_ | refine aops_nil (d_end ?_) | refine aops_nil ?_ | refine awp_seq ?_ | refine g_text ?_ | refine g_draw Tryd.mixed ?_ | refine awp_block ?_ | refine awp_skip ?_ | (refine awp_exit ?_; simp only [thenA, blockA, ↓reduceIte, Nat.reduceEqDiff, reduceCtorEq]))
        refine awp_yes' (by simp only [go_sem, reduceIte, reduceCtorEq, Nat.reduceAdd, Nat.reduceSub, Nat.reduceEqDiff, Nat.reduceLT, Nat.reduceLeDiff, Nat.reduceMul, ↓reduceIte, Int.reduceToNat, Int.reduceBEq, Int.reduceBNe, Int.reduceEq, Int.reduceLT, Int.reduceLE, bookC, resO, atI, k1, k2, e2, e3, e4, e5, hf2, rowS, cellS, iAV]; exact Is.rfl') ?_
        repeat (first | refine aops_op' rfl (by simp only [go_sem, reduceIte, reduceCtorEq, Nat.reduceAdd, Nat.reduceSub, Nat.reduceEqDiff, Nat.reduceLT, Nat.reduceLeDiff, Nat.reduceMul, ↓reduceIte, Int.reduceToNat, Int.reduceBEq, Int.reduceBNe, Int.reduceEq, Int.reduceLT, Int.reduceLE, bookC, resO, atI, k1, k2, e2, e3, e4, e5, hf2, rowS, cellS, iAV]; exact ⟨rfl, rfl⟩) ?_ | refine g_run ?_ | refine g_off ?_ | refine aops_nil (d_end ?_) | refine aops_nil ?_ | refine awp_seq ?_ | refine g_text ?_ | refine g_draw Tryd.mixed ?_ | refine awp_block ?_ | refine awp_skip ?_ | (refine awp_exit ?_; simp only [thenA, blockA, ↓reduceIte, Nat.reduceEqDiff, reduceCtorEq]))
        refine aops_call' rfl (ht) (by simp only [go_sem, reduceIte, reduceCtorEq, Nat.reduceAdd, Nat.reduceSub, Nat.reduceEqDiff, Nat.reduceLT, Nat.reduceLeDiff, Nat.reduceMul, ↓reduceIte, Int.reduceToNat, Int.reduceBEq, Int.reduceBNe, Int.reduceEq, Int.reduceLT, Int.reduceLE, bookC, resO, atI, k1, k2, e2, e3, e4, e5, hf2, rowS, cellS, iAV]; exact Is.rfl') (by simp only [go_sem, reduceIte, reduceCtorEq, Nat.reduceAdd, Nat.reduceSub, Nat.reduceEqDiff, Nat.reduceLT, Nat.reduceLeDiff, Nat.reduceMul, ↓reduceIte, Int.reduceToNat, Int.reduceBEq, Int.reduceBNe, Int.reduceEq, Int.reduceLT, Int.reduceLE, bookC, resO, atI, k1, k2, e2, e3, e4, e5, hf2, rowS, cellS, iAV]; exact ⟨rfl, rfl⟩) ?_
        repeat (first | refine aops_op' rfl (by simp only [go_sem, reduceIte, reduceCtorEq, Nat.reduceAdd, Nat.reduceSub, Nat.reduceEqDiff, Nat.reduceLT, Nat.reduceLeDiff, Nat.reduceMul, ↓reduceIte, Int.reduceToNat, Int.reduceBEq, Int.reduceBNe, Int.reduceEq, Int.reduceLT, Int.reduceLE, bookC, resO, atI, k1, k2, e2, e3, e4, e5, hf2, rowS, cellS, iAV]; exact ⟨rfl, rfl⟩) ?_ | refine g_run ?_ | refine g_off ?_ | refine aops_nil (d_end ?_) | refine aops_nil ?_ | refine awp_seq ?_ | refine g_text ?_ | refine g_draw Tryd.mixed ?_ | refine awp_block ?_ | refine awp_skip ?_ | (refine awp_exit ?_; simp only [thenA, blockA, ↓reduceIte, Nat.reduceEqDiff, reduceCtorEq]))
        refine aops_call' rfl (hsg) (by simp only [go_sem, reduceIte, reduceCtorEq, Nat.reduceAdd, Nat.reduceSub, Nat.reduceEqDiff, Nat.reduceLT, Nat.reduceLeDiff, Nat.reduceMul, ↓reduceIte, Int.reduceToNat, Int.reduceBEq, Int.reduceBNe, Int.reduceEq, Int.reduceLT, Int.reduceLE, bookC, resO, atI, k1, k2, e2, e3, e4, e5, hf2, rowS, cellS, iAV]; exact Is.rfl') (by simp only [go_sem, reduceIte, reduceCtorEq, Nat.reduceAdd, Nat.reduceSub, Nat.reduceEqDiff, Nat.reduceLT, Nat.reduceLeDiff, Nat.reduceMul, ↓reduceIte, Int.reduceToNat, Int.reduceBEq, Int.reduceBNe, Int.reduceEq, Int.reduceLT, Int.reduceLE, bookC, resO, atI, k1, k2, e2, e3, e4, e5, hf2, rowS, cellS, iAV]; exact ⟨rfl, rfl⟩) ?_
        repeat (first | refine aops_op' rfl (by simp only [go_sem, reduceIte, reduceCtorEq, Nat.reduceAdd, Nat.reduceSub, Nat.reduceEqDiff, Nat.reduceLT, Nat.reduceLeDiff, Nat.reduceMul, ↓reduceIte, Int.reduceToNat, Int.reduceBEq, Int.reduceBNe, Int.reduceEq, Int.reduceLT, Int.reduceLE, bookC, resO, atI, k1, k2, e2, e3, e4, e5, hf2, rowS, cellS, iAV]; exact ⟨rfl, rfl⟩) ?_ | refine g_run ?_ | refine g_off ?_ | refine aops_nil (d_end ?_) | refine aops_nil ?_ | refine awp_seq ?_ | refine g_text ?_ | refine g_draw Tryd.mixed ?_ | refine awp_block ?_ | refine awp_skip ?_ | (refine awp_exit ?_; simp only [thenA, blockA, ↓reduceIte, Nat.reduceEqDiff, reduceCtorEq]))
        refine ⟨(i + 1, y :: r ++ [unfoldI v], p1), ⟨hlt, ?_, hin, ?_⟩, ?_, ?_, ?_⟩
        · exact hst
        · simp only [go_sem, reduceIte, reduceCtorEq, Nat.reduceAdd, Nat.reduceSub, Nat.reduceEqDiff, Nat.reduceLT, Nat.reduceLeDiff, Nat.reduceMul, ↓reduceIte, Int.reduceToNat, Int.reduceBEq, Int.reduceBNe, Int.reduceEq, Int.reduceLT, Int.reduceLE, e2, e3, e4, e5]
        · (simp only [go_sem, reduceIte, reduceCtorEq, Nat.reduceAdd, Nat.reduceSub, Nat.reduceEqDiff, Nat.reduceLT, Nat.reduceLeDiff, Nat.reduceMul, ↓reduceIte, Int.reduceToNat, Int.reduceBEq, Int.reduceBNe, Int.reduceEq, Int.reduceLT, Int.reduceLE, bookC, resO, atI, k1, k2, e2, e3, e4, e5, hf2, rowS, cellS, iAV])
        · simp only [List.cons_append, rowS, cellS]
          (simp only [go_sem, reduceIte, reduceCtorEq, Nat.reduceAdd, Nat.reduceSub, Nat.reduceEqDiff, Nat.reduceLT, Nat.reduceLeDiff, Nat.reduceMul, ↓reduceIte, Int.reduceToNat, Int.reduceBEq, Int.reduceBNe, Int.reduceEq, Int.reduceLT, Int.reduceLE, bookC, resO, atI, k1, k2, e2, e3, e4, e5, hf2, rowS, cellS, iAV])
          simp [iAV]
        · simp only; omega
    · have k1 : ¬ (i : Int) < (n : Int) := by omega
      have hs' : Stands T (some a) 0 (fun x => K1 b acc x) := by
        obtain ⟨h1, h2⟩ := hs
        have h1 : pvars b (K1 b) (n - i) a acc = T := h1
        rw [show n - i = 0 by omega] at h1
        exact ⟨h1, Nat.zero_le _⟩
      repeat (first | refine aops_op' rfl (by simp only [go_sem, reduceIte, reduceCtorEq, Nat.reduceAdd, Nat.reduceSub, Nat.reduceEqDiff, Nat.reduceLT, Nat.reduceLeDiff, Nat.reduceMul, ↓reduceIte, Int.reduceToNat, Int.reduceBEq, Int.reduceBNe, Int.reduceEq, Int.reduceLT, Int.reduceLE, bookC, resO, atI, k1]; exact ⟨rfl, rfl⟩) ?_ | refine g_run ?_ | refine g_off ?_ | refine aops_nil (d_end ?_) | refine aops_nil ?_ | refine awp_seq ?_ | refine g_text ?_ | refine g_draw Tryd.mixed ?_ | refine awp_block ?_ | refine awp_skip ?_ | (refine awp_exit ?_; simp only [thenA, blockA, ↓reduceIte, Nat.reduceEqDiff, reduceCtorEq]))
      refine awp_no' (by simp only [go_sem, reduceIte, reduceCtorEq, Nat.reduceAdd, Nat.reduceSub, Nat.reduceEqDiff, Nat.reduceLT, Nat.reduceLeDiff, Nat.reduceMul, ↓reduceIte, Int.reduceToNat, Int.reduceBEq, Int.reduceBNe, Int.reduceEq, Int.reduceLT, Int.reduceLE, bookC, resO, atI, k1]; exact Is.rfl') ?_
      repeat (first | refine aops_op' rfl (by simp only [go_sem, reduceIte, reduceCtorEq, Nat.reduceAdd, Nat.reduceSub, Nat.reduceEqDiff, Nat.reduceLT, Nat.reduceLeDiff, Nat.reduceMul, ↓reduceIte, Int.reduceToNat, Int.reduceBEq, Int.reduceBNe, Int.reduceEq, Int.reduceLT, Int.reduceLE, bookC, resO, atI, k1]; exact ⟨rfl, rfl⟩) ?_ | refine g_run ?_ | refine g_off ?_ | refine aops_nil (d_end ?_) | refine aops_nil ?_ | refine awp_seq ?_ | refine g_text ?_ | refine g_draw Tryd.mixed ?_ | refine awp_block ?_ | refine awp_skip ?_ | (refine awp_exit ?_; simp only [thenA, blockA, ↓reduceIte, Nat.reduceEqDiff, reduceCtorEq]))
      refine ⟨(acc, some a), ⟨hs', hps, e2, e3, e4, e5⟩, ?_, ?_⟩
      · (simp only [go_sem, reduceIte, reduceCtorEq, Nat.reduceAdd, Nat.reduceSub, Nat.reduceEqDiff, Nat.reduceLT, Nat.reduceLeDiff, Nat.reduceMul, ↓reduceIte, Int.reduceToNat, Int.reduceBEq, Int.reduceBNe, Int.reduceEq, Int.reduceLT, Int.reduceLE, bookC, resO, atI, k1])
      · cases acc <;> (simp only [rowS, cellS]; (simp only [go_sem, reduceIte, reduceCtorEq, Nat.reduceAdd, Nat.reduceSub, Nat.reduceEqDiff, Nat.reduceLT, Nat.reduceLeDiff, Nat.reduceMul, ↓reduceIte, Int.reduceToNat, Int.reduceBEq, Int.reduceBNe, Int.reduceEq, Int.reduceLT, Int.reduceLE, bookC, resO, atI, k1]))
end Go.Proofs.YtbleibmjippmpaaDoor
