/- The contract of scriniumref34.Get, by the walk without memory. -/
import Derived.Test.YtbleibmjippmpaaDoorCE
import Derived.Test.YtbleibmjippmpaaDoorCL
import Derived.Test.YtbleibmjippmpaaDoorC8
import Derived.Test.YtbleibmjippmpaaDoorC9
set_option linter.unusedSimpArgs false
namespace Go.Proofs.YtbleibmjippmpaaDoor
open Go.RowKit
set_option maxRecDepth 100000
set_option maxHeartbeats 8000000
attribute [local go_sem] resRd resOne resAll HoldF HoldR Takes thenA blockA ev_move ev_assign ev_pick ev_alloc ev_box ev_build ev_buildSlice ev_load ev_store ev_binOp ev_unOp ev_convert ev_iface ev_make ev_slice ev_fieldAddr ev_field ev_indexAddr ev_index ev_extract ev_len ev_append ev_min ev_max evMin evMax gt_tmp gt_int gt_bool gt_str gt_nilS gt_nilP gt_nilI pickRd allocRd buildRd sliceRd loadRd unRd ifaceRd exRd val optRd callRd seen AV.plain adopt fzArgs Rd.run AV.asCells newBox runL Comes' Rd.row Rd.bind Out.app apps Eff.app St.renew St.setRow St.show St.put St.init upd evStore evBin eqFs eqCell evConv evSeq evLen evIndexAddr evFieldAddr evField evIndex bound evSlice evAppend evMake loadOf fillAV fillEs fzParts fz fzCell fzCells shows isConstOp splice wrs wes Value.oneCell' List.getD_cons_zero List.getD_cons_succ List.getD_nil List.length_cons List.length_nil List.map_cons List.map_nil List.nil_append List.cons_append List.all_cons List.all_nil List.getElem?_cons_zero List.getElem?_cons_succ List.set_cons_zero List.set_cons_succ List.take_succ_cons List.take_zero List.drop_succ_cons List.drop_zero List.take_nil List.drop_nil List.replicate_succ List.replicate_zero Bool.and_true Bool.true_and Bool.and_self and_self true_and and_true Nat.zero_add Nat.add_zero Option.some.injEq Nat.zero_lt_succ Bool.not_true Bool.not_false ne_eq not_true_eq_false not_false_eq_true Option.map_some Option.map_none List.toList_toArray head headF headR List.length_map Int.toNat_natCast Int.natCast_nonneg List.getElem?_map decide_true decide_false Bool.false_eq_true if_true if_false Bool.or_self Bool.or_true Bool.true_or Bool.false_or Bool.or_false Bool.and_false Bool.false_and List.flatten_cons List.flatten_nil List.append_nil nat0 or_self or_false false_or or_true true_or and_false false_and List.length_append List.isEmpty_nil bne_self_eq_false beq_self_eq_true fits_small strL_l bytesOf_map wants Int.cast_ofNat_Int gt_iff_lt ge_iff_le
attribute [local go_sem ←] List.map_drop List.map_take

theorem restO_in {b : List UInt8} {a : Option Nat} {f : Found} (h : restO b a = some f) : f.1.length ≤ b.length ∧ f.2.1.length ≤ b.length ∧ f.2.2.1.length ≤ b.length ∧ (∀ m ∈ f.2.1, m.2.length ≤ 32) ∧ ∀ t ∈ f.2.2.1, t.1.length ≤ b.length := by
  unfold restO at h
  cases ho : takeO b a 1 with
  | none => rw [ho] at h; cases h
  | some x =>
    rw [ho] at h
    have h : pvars b (K1 b) x.1 x.2 [] = some f := h
    have hx : x.2 ≤ b.length := takeO_in ho x.2 rfl
    obtain ⟨vs, a1, h, v1, v2⟩ := pvars_in _ _ _ h (Nat.zero_le _) hx
    unfold K1 at h
    cases hp : pnum b a1 1 with
    | none => rw [hp] at h; cases h
    | some y =>
      rw [hp] at h
      have h : pmems b (K2 b vs) y.1 y.2 [] = some f := h
      obtain ⟨ms, a2, h, m1, m2, m3⟩ := pmems_in _ _ _ h (Nat.zero_le _) (pnum_is hp).2 (fun m hm => by cases hm)
      unfold K2 at h
      cases hp2 : pnum b a2 1 with
      | none => rw [hp2] at h; cases h
      | some z =>
        rw [hp2] at h
        have h : ptms b (K3 vs ms) z.1 z.2 [] = some f := h
        obtain ⟨ts, a3, h, t1, t2, t3⟩ := ptms_in _ _ _ h (Nat.zero_le _) (pnum_is hp2).2 (fun m hm => by cases hm)
        cases h
        exact ⟨by simp only; omega, by simp only; omega, by simp only; omega, m3, t3⟩
/-- A record of what was found. -/
def recF (c bo s : Int) (o : Bool) (ac : List Int) (f : Found) : Rc := ⟨c, bo, s, ac, f.1, f.2.1, f.2.2.1, o⟩
theorem p7_is (b : List UInt8) (c bo s : Int) (o : Bool) (ac : List Int) (a : Nat) : p7 b c bo s o ac a = (restO b (some a)).map (recF c bo s o ac) := by
  have e9 : ∀ vs ms a, p9 b c bo s o ac vs ms a = (K2 b vs ms a).map (recF c bo s o ac) := fun vs ms a => by
    unfold p9 K2
    rw [Option.map_bind]
    congr 1
    funext x
    exact ptms_map (recF c bo s o ac) (K := K3 vs ms) _ _ _
  have e8 : ∀ vs a, p8 b c bo s o ac vs a = (K1 b vs a).map (recF c bo s o ac) := fun vs a => by
    unfold p8 K1
    rw [Option.map_bind]
    congr 1
    funext x
    simp only [e9]
    exact pmems_map (recF c bo s o ac) (K := K2 b vs) _ _ _
  unfold p7 restO takeO
  rw [Option.bind_some, Option.map_bind]
  congr 1
  funext x
  simp only [e8]
  exact pvars_map (recF c bo s o ac) (K := K1 b) _ _ _
theorem recBs_len {r : Rc} (h : rightB r = true) : (recBs r).length ≤ 1000000 := by
  have R := rights h
  have h1 := w_varBs_len r.vars
  have h2 := w_memBs_len r.mem
  have h3 := w_tmBs_len r.timers (fun t ht => (R.tms t ht).1)
  have h4 := R.vars1
  have h5 := R.mem1
  have h6 := R.tms1
  simp only [recBs, headBs, List.length_append, lowB_len, List.length_cons, List.length_nil]
  omega
def zeroR : List AV := [I 0, I 0, I 0, nilS, nilS, nilS, nilS, B false]
def getAV (b : List UInt8) : AV := match getR b with
  | some r => .tuple [.agg (recAV r), B true]
  | none => .tuple [.agg zeroR, B false]
theorem w_getR_con (env : Env) (b : List UInt8) (hb : b.length ≤ 1000000) : Con Tryd.prog env 36 [Bs b] (getAV b) := by
  refine con_of_body Tryd.func36 rfl Tryd.call36 (by rw [Tryd.ntmps36]; simp) ?_
  rw [Tryd.ntmps36, Tryd.results36]
  obtain ⟨o1, h1⟩ : ∃ o, takeO b (some 2) 4 = o := ⟨_, rfl⟩
  obtain ⟨o2, h2⟩ : ∃ o, takeO b (o1.map (·.2)) 8 = o := ⟨_, rfl⟩
  obtain ⟨o3, h3⟩ : ∃ o, takeO b (o2.map (·.2)) 8 = o := ⟨_, rfl⟩
  obtain ⟨o4, h4⟩ : ∃ o, takeO b (o3.map (·.2)) 1 = o := ⟨_, rfl⟩
  obtain ⟨o5, h5⟩ : ∃ o, takeO b (o4.map (·.2)) 4 = o := ⟨_, rfl⟩
  have t1 := w_rtake_con env b (some 2) 4 hb (fun x hx => by cases hx; omega) (by decide)
  have t2 := w_rtake_con env b (o1.map (·.2)) 8 hb (fun x hx => by have := takeO_in h1 x hx; omega) (by decide)
  have t3 := w_rtake_con env b (o2.map (·.2)) 8 hb (fun x hx => by have := takeO_in h2 x hx; omega) (by decide)
  have t4 := w_rtake_con env b (o3.map (·.2)) 1 hb (fun x hx => by have := takeO_in h3 x hx; omega) (by decide)
  have t5 := w_rtake_con env b (o4.map (·.2)) 4 hb (fun x hx => by have := takeO_in h4 x hx; omega) (by decide)
  rw [h1] at t1
  rw [h2] at t2
  rw [h3] at t3
  rw [h4] at t4
  rw [h5] at t5
  have n5 := takeO_lt h5
  have ts := w_set_con env (numO o5) (by omega)
  have tr := w_rest_con env b (o5.map (·.2)) (setOf (numO o5)) (((numO o4 : Nat) : Int) == 1) hb (takeO_in h5)
  obtain ⟨T, hT⟩ : ∃ T, restO b (o5.map (·.2)) = T := ⟨_, rfl⟩
  rw [hT] at tr
  have hparse : parse b = T.map (recF (numO o1) (numO o2) (numO o3) (((numO o4 : Nat) : Int) == 1) (setOf (numO o5))) := by
    have h1 : pnum b 2 4 = o1 := h1
    unfold parse
    rw [h1]
    cases o1 with
    | none =>
      have e2 : o2 = none := by rw [← h2]; rfl
      have e3 : o3 = none := by rw [← h3, e2]; rfl
      have e4 : o4 = none := by rw [← h4, e3]; rfl
      have e5 : o5 = none := by rw [← h5, e4]; rfl
      have e6 : T = none := by rw [← hT, e5]; rfl
      rw [e6]
      rfl
    | some x1 =>
      have h2 : pnum b x1.2 8 = o2 := h2
      show p3 b x1.1 x1.2 = _
      unfold p3
      rw [h2]
      cases o2 with
      | none =>
        have e3 : o3 = none := by rw [← h3]; rfl
        have e4 : o4 = none := by rw [← h4, e3]; rfl
        have e5 : o5 = none := by rw [← h5, e4]; rfl
        have e6 : T = none := by rw [← hT, e5]; rfl
        rw [e6]
        rfl
      | some x2 =>
        have h3 : pnum b x2.2 8 = o3 := h3
        show p4 b x1.1 x2.1 x2.2 = _
        unfold p4
        rw [h3]
        cases o3 with
        | none =>
          have e4 : o4 = none := by rw [← h4]; rfl
          have e5 : o5 = none := by rw [← h5, e4]; rfl
          have e6 : T = none := by rw [← hT, e5]; rfl
          rw [e6]
          rfl
        | some x3 =>
          have h4 : pnum b x3.2 1 = o4 := h4
          show p5 b x1.1 x2.1 x3.1 x3.2 = _
          unfold p5
          rw [h4]
          cases o4 with
          | none =>
            have e5 : o5 = none := by rw [← h5]; rfl
            have e6 : T = none := by rw [← hT, e5]; rfl
            rw [e6]
            rfl
          | some x4 =>
            have h5 : pnum b x4.2 4 = o5 := h5
            show p6 b x1.1 x2.1 x3.1 (decide (x4.1 = 1)) x4.2 = _
            unfold p6
            rw [h5]
            cases o5 with
            | none =>
              have e6 : T = none := by rw [← hT]; rfl
              rw [e6]
              rfl
            | some x5 =>
              show p7 b x1.1 x2.1 x3.1 (decide (x4.1 = 1)) (setOf x5.1) x5.2 = T.map (recF x1.1 x2.1 x3.1 (((x4.1 : Nat) : Int) == 1) (setOf x5.1))
              have e : (((x4.1 : Nat) : Int) == 1) = decide (x4.1 = 1) := by rw [Bool.eq_iff_iff]; simp; omega
              rw [p7_is, show restO b (some x5.2) = T from hT, e]
  unfold resO at t1 t2 t3 t4 t5
  repeat (first | refine aops_op' rfl (by simp only [go_sem, reduceIte, reduceCtorEq, Nat.reduceAdd, Nat.reduceSub, Nat.reduceEqDiff, Nat.reduceLT, Nat.reduceLeDiff, Nat.reduceMul, ↓reduceIte, Int.reduceToNat, Int.reduceBEq, Int.reduceBNe, Int.reduceEq, Int.reduceLT, Int.reduceLE, bookC]; exact ⟨rfl, rfl⟩) ?_ | refine g_run ?_ | refine g_off ?_ | refine aops_nil (d_end ?_) | refine aops_nil ?_ | refine awp_seq ?_ | refine g_text ?_ | refine g_draw Tryd.mixed ?_ | refine awp_block ?_ | refine awp_skip ?_ | (refine awp_exit ?_; simp only [thenA, blockA, ↓reduceIte, Nat.reduceEqDiff, reduceCtorEq]))
  refine aops_call' rfl (t1) (by simp only [go_sem, reduceIte, reduceCtorEq, Nat.reduceAdd, Nat.reduceSub, Nat.reduceEqDiff, Nat.reduceLT, Nat.reduceLeDiff, Nat.reduceMul, ↓reduceIte, Int.reduceToNat, Int.reduceBEq, Int.reduceBNe, Int.reduceEq, Int.reduceLT, Int.reduceLE, bookC]; exact Is.rfl') (by simp only [go_sem, reduceIte, reduceCtorEq, Nat.reduceAdd, Nat.reduceSub, Nat.reduceEqDiff, Nat.reduceLT, Nat.reduceLeDiff, Nat.reduceMul, ↓reduceIte, Int.reduceToNat, Int.reduceBEq, Int.reduceBNe, Int.reduceEq, Int.reduceLT, Int.reduceLE, bookC]; exact ⟨rfl, rfl⟩) ?_
  repeat (first | refine aops_op' rfl (by simp only [go_sem, reduceIte, reduceCtorEq, Nat.reduceAdd, Nat.reduceSub, Nat.reduceEqDiff, Nat.reduceLT, Nat.reduceLeDiff, Nat.reduceMul, ↓reduceIte, Int.reduceToNat, Int.reduceBEq, Int.reduceBNe, Int.reduceEq, Int.reduceLT, Int.reduceLE, bookC]; exact ⟨rfl, rfl⟩) ?_ | refine g_run ?_ | refine g_off ?_ | refine aops_nil (d_end ?_) | refine aops_nil ?_ | refine awp_seq ?_ | refine g_text ?_ | refine g_draw Tryd.mixed ?_ | refine awp_block ?_ | refine awp_skip ?_ | (refine awp_exit ?_; simp only [thenA, blockA, ↓reduceIte, Nat.reduceEqDiff, reduceCtorEq]))
  refine aops_call' rfl (t2) (by simp only [go_sem, reduceIte, reduceCtorEq, Nat.reduceAdd, Nat.reduceSub, Nat.reduceEqDiff, Nat.reduceLT, Nat.reduceLeDiff, Nat.reduceMul, ↓reduceIte, Int.reduceToNat, Int.reduceBEq, Int.reduceBNe, Int.reduceEq, Int.reduceLT, Int.reduceLE, bookC]; exact Is.rfl') (by simp only [go_sem, reduceIte, reduceCtorEq, Nat.reduceAdd, Nat.reduceSub, Nat.reduceEqDiff, Nat.reduceLT, Nat.reduceLeDiff, Nat.reduceMul, ↓reduceIte, Int.reduceToNat, Int.reduceBEq, Int.reduceBNe, Int.reduceEq, Int.reduceLT, Int.reduceLE, bookC]; exact ⟨rfl, rfl⟩) ?_
  repeat (first | refine aops_op' rfl (by simp only [go_sem, reduceIte, reduceCtorEq, Nat.reduceAdd, Nat.reduceSub, Nat.reduceEqDiff, Nat.reduceLT, Nat.reduceLeDiff, Nat.reduceMul, ↓reduceIte, Int.reduceToNat, Int.reduceBEq, Int.reduceBNe, Int.reduceEq, Int.reduceLT, Int.reduceLE, bookC]; exact ⟨rfl, rfl⟩) ?_ | refine g_run ?_ | refine g_off ?_ | refine aops_nil (d_end ?_) | refine aops_nil ?_ | refine awp_seq ?_ | refine g_text ?_ | refine g_draw Tryd.mixed ?_ | refine awp_block ?_ | refine awp_skip ?_ | (refine awp_exit ?_; simp only [thenA, blockA, ↓reduceIte, Nat.reduceEqDiff, reduceCtorEq]))
  refine aops_call' rfl (t3) (by simp only [go_sem, reduceIte, reduceCtorEq, Nat.reduceAdd, Nat.reduceSub, Nat.reduceEqDiff, Nat.reduceLT, Nat.reduceLeDiff, Nat.reduceMul, ↓reduceIte, Int.reduceToNat, Int.reduceBEq, Int.reduceBNe, Int.reduceEq, Int.reduceLT, Int.reduceLE, bookC]; exact Is.rfl') (by simp only [go_sem, reduceIte, reduceCtorEq, Nat.reduceAdd, Nat.reduceSub, Nat.reduceEqDiff, Nat.reduceLT, Nat.reduceLeDiff, Nat.reduceMul, ↓reduceIte, Int.reduceToNat, Int.reduceBEq, Int.reduceBNe, Int.reduceEq, Int.reduceLT, Int.reduceLE, bookC]; exact ⟨rfl, rfl⟩) ?_
  repeat (first | refine aops_op' rfl (by simp only [go_sem, reduceIte, reduceCtorEq, Nat.reduceAdd, Nat.reduceSub, Nat.reduceEqDiff, Nat.reduceLT, Nat.reduceLeDiff, Nat.reduceMul, ↓reduceIte, Int.reduceToNat, Int.reduceBEq, Int.reduceBNe, Int.reduceEq, Int.reduceLT, Int.reduceLE, bookC]; exact ⟨rfl, rfl⟩) ?_ | refine g_run ?_ | refine g_off ?_ | refine aops_nil (d_end ?_) | refine aops_nil ?_ | refine awp_seq ?_ | refine g_text ?_ | refine g_draw Tryd.mixed ?_ | refine awp_block ?_ | refine awp_skip ?_ | (refine awp_exit ?_; simp only [thenA, blockA, ↓reduceIte, Nat.reduceEqDiff, reduceCtorEq]))
  refine aops_call' rfl (t4) (by simp only [go_sem, reduceIte, reduceCtorEq, Nat.reduceAdd, Nat.reduceSub, Nat.reduceEqDiff, Nat.reduceLT, Nat.reduceLeDiff, Nat.reduceMul, ↓reduceIte, Int.reduceToNat, Int.reduceBEq, Int.reduceBNe, Int.reduceEq, Int.reduceLT, Int.reduceLE, bookC]; exact Is.rfl') (by simp only [go_sem, reduceIte, reduceCtorEq, Nat.reduceAdd, Nat.reduceSub, Nat.reduceEqDiff, Nat.reduceLT, Nat.reduceLeDiff, Nat.reduceMul, ↓reduceIte, Int.reduceToNat, Int.reduceBEq, Int.reduceBNe, Int.reduceEq, Int.reduceLT, Int.reduceLE, bookC]; exact ⟨rfl, rfl⟩) ?_
  repeat (first | refine aops_op' rfl (by simp only [go_sem, reduceIte, reduceCtorEq, Nat.reduceAdd, Nat.reduceSub, Nat.reduceEqDiff, Nat.reduceLT, Nat.reduceLeDiff, Nat.reduceMul, ↓reduceIte, Int.reduceToNat, Int.reduceBEq, Int.reduceBNe, Int.reduceEq, Int.reduceLT, Int.reduceLE, bookC]; exact ⟨rfl, rfl⟩) ?_ | refine g_run ?_ | refine g_off ?_ | refine aops_nil (d_end ?_) | refine aops_nil ?_ | refine awp_seq ?_ | refine g_text ?_ | refine g_draw Tryd.mixed ?_ | refine awp_block ?_ | refine awp_skip ?_ | (refine awp_exit ?_; simp only [thenA, blockA, ↓reduceIte, Nat.reduceEqDiff, reduceCtorEq]))
  refine aops_call' rfl (t5) (by simp only [go_sem, reduceIte, reduceCtorEq, Nat.reduceAdd, Nat.reduceSub, Nat.reduceEqDiff, Nat.reduceLT, Nat.reduceLeDiff, Nat.reduceMul, ↓reduceIte, Int.reduceToNat, Int.reduceBEq, Int.reduceBNe, Int.reduceEq, Int.reduceLT, Int.reduceLE, bookC]; exact Is.rfl') (by simp only [go_sem, reduceIte, reduceCtorEq, Nat.reduceAdd, Nat.reduceSub, Nat.reduceEqDiff, Nat.reduceLT, Nat.reduceLeDiff, Nat.reduceMul, ↓reduceIte, Int.reduceToNat, Int.reduceBEq, Int.reduceBNe, Int.reduceEq, Int.reduceLT, Int.reduceLE, bookC]; exact ⟨rfl, rfl⟩) ?_
  repeat (first | refine aops_op' rfl (by simp only [go_sem, reduceIte, reduceCtorEq, Nat.reduceAdd, Nat.reduceSub, Nat.reduceEqDiff, Nat.reduceLT, Nat.reduceLeDiff, Nat.reduceMul, ↓reduceIte, Int.reduceToNat, Int.reduceBEq, Int.reduceBNe, Int.reduceEq, Int.reduceLT, Int.reduceLE, bookC]; exact ⟨rfl, rfl⟩) ?_ | refine g_run ?_ | refine g_off ?_ | refine aops_nil (d_end ?_) | refine aops_nil ?_ | refine awp_seq ?_ | refine g_text ?_ | refine g_draw Tryd.mixed ?_ | refine awp_block ?_ | refine awp_skip ?_ | (refine awp_exit ?_; simp only [thenA, blockA, ↓reduceIte, Nat.reduceEqDiff, reduceCtorEq]))
  refine aops_call' rfl (ts) (by simp only [go_sem, reduceIte, reduceCtorEq, Nat.reduceAdd, Nat.reduceSub, Nat.reduceEqDiff, Nat.reduceLT, Nat.reduceLeDiff, Nat.reduceMul, ↓reduceIte, Int.reduceToNat, Int.reduceBEq, Int.reduceBNe, Int.reduceEq, Int.reduceLT, Int.reduceLE, bookC]; exact Is.rfl') (by simp only [go_sem, reduceIte, reduceCtorEq, Nat.reduceAdd, Nat.reduceSub, Nat.reduceEqDiff, Nat.reduceLT, Nat.reduceLeDiff, Nat.reduceMul, ↓reduceIte, Int.reduceToNat, Int.reduceBEq, Int.reduceBNe, Int.reduceEq, Int.reduceLT, Int.reduceLE, bookC]; exact ⟨rfl, rfl⟩) ?_
  repeat (first | refine aops_op' rfl (by simp only [go_sem, reduceIte, reduceCtorEq, Nat.reduceAdd, Nat.reduceSub, Nat.reduceEqDiff, Nat.reduceLT, Nat.reduceLeDiff, Nat.reduceMul, ↓reduceIte, Int.reduceToNat, Int.reduceBEq, Int.reduceBNe, Int.reduceEq, Int.reduceLT, Int.reduceLE, bookC]; exact ⟨rfl, rfl⟩) ?_ | refine g_run ?_ | refine g_off ?_ | refine aops_nil (d_end ?_) | refine aops_nil ?_ | refine awp_seq ?_ | refine g_text ?_ | refine g_draw Tryd.mixed ?_ | refine awp_block ?_ | refine awp_skip ?_ | (refine awp_exit ?_; simp only [thenA, blockA, ↓reduceIte, Nat.reduceEqDiff, reduceCtorEq]))
  cases T with
  | none =>
    have hg : getAV b = .tuple [.agg zeroR, B false] := by unfold getAV getR; rw [hparse]; rfl
    rw [hg]
    unfold restAV at tr
    refine aops_call' rfl (tr) (by simp only [go_sem, reduceIte, reduceCtorEq, Nat.reduceAdd, Nat.reduceSub, Nat.reduceEqDiff, Nat.reduceLT, Nat.reduceLeDiff, Nat.reduceMul, ↓reduceIte, Int.reduceToNat, Int.reduceBEq, Int.reduceBNe, Int.reduceEq, Int.reduceLT, Int.reduceLE, bookC, atI]; exact Is.rfl') (by simp only [go_sem, reduceIte, reduceCtorEq, Nat.reduceAdd, Nat.reduceSub, Nat.reduceEqDiff, Nat.reduceLT, Nat.reduceLeDiff, Nat.reduceMul, ↓reduceIte, Int.reduceToNat, Int.reduceBEq, Int.reduceBNe, Int.reduceEq, Int.reduceLT, Int.reduceLE, bookC, atI]; exact ⟨rfl, rfl⟩) ?_
    repeat (first | refine aops_op' rfl (by simp only [go_sem, reduceIte, reduceCtorEq, Nat.reduceAdd, Nat.reduceSub, Nat.reduceEqDiff, Nat.reduceLT, Nat.reduceLeDiff, Nat.reduceMul, ↓reduceIte, Int.reduceToNat, Int.reduceBEq, Int.reduceBNe, Int.reduceEq, Int.reduceLT, Int.reduceLE, bookC, atI]; exact ⟨rfl, rfl⟩) ?_ | refine g_run ?_ | refine g_off ?_ | refine aops_nil (d_end ?_) | refine aops_nil ?_ | refine awp_seq ?_ | refine g_text ?_ | refine g_draw Tryd.mixed ?_ | refine awp_block ?_ | refine awp_skip ?_ | (refine awp_exit ?_; simp only [thenA, blockA, ↓reduceIte, Nat.reduceEqDiff, reduceCtorEq]))
    refine awp_yes' (by simp only [go_sem, reduceIte, reduceCtorEq, Nat.reduceAdd, Nat.reduceSub, Nat.reduceEqDiff, Nat.reduceLT, Nat.reduceLeDiff, Nat.reduceMul, ↓reduceIte, Int.reduceToNat, Int.reduceBEq, Int.reduceBNe, Int.reduceEq, Int.reduceLT, Int.reduceLE, bookC, atI]; exact Is.rfl') ?_
    repeat (first | refine aops_op' rfl (by simp only [go_sem, reduceIte, reduceCtorEq, Nat.reduceAdd, Nat.reduceSub, Nat.reduceEqDiff, Nat.reduceLT, Nat.reduceLeDiff, Nat.reduceMul, ↓reduceIte, Int.reduceToNat, Int.reduceBEq, Int.reduceBNe, Int.reduceEq, Int.reduceLT, Int.reduceLE, bookC, atI]; exact ⟨rfl, rfl⟩) ?_ | refine g_run ?_ | refine g_off ?_ | refine aops_nil (d_end ?_) | refine aops_nil ?_ | refine awp_seq ?_ | refine g_text ?_ | refine g_draw Tryd.mixed ?_ | refine awp_block ?_ | refine awp_skip ?_ | (refine awp_exit ?_; simp only [thenA, blockA, ↓reduceIte, Nat.reduceEqDiff, reduceCtorEq]))
    (refine awp_ret ?_; show (resRd _ _ _).run _ = some _; simp only [go_sem, reduceIte, reduceCtorEq, Nat.reduceAdd, Nat.reduceSub, Nat.reduceEqDiff, Nat.reduceLT, Nat.reduceLeDiff, Nat.reduceMul, ↓reduceIte, Int.reduceToNat, Int.reduceBEq, Int.reduceBNe, Int.reduceEq, Int.reduceLT, Int.reduceLE, bookC, atI])
    rfl
  | some f =>
    obtain ⟨vs, ms, tms, a⟩ := f
    have hlen := restO_in hT
    obtain ⟨r, hr⟩ : ∃ r, r = recF (numO o1) (numO o2) (numO o3) (((numO o4 : Nat) : Int) == 1) (setOf (numO o5)) (vs, ms, tms, a) := ⟨_, rfl⟩
    have hp : parse b = some r := by rw [hparse, hr]; rfl
    have hlite : Lite r := by
      rw [hr]
      exact ⟨Nat.le_trans (w_setOf_len _) (by decide), Nat.le_trans hlen.1 hb, Nat.le_trans hlen.2.1 hb, Nat.le_trans hlen.2.2.1 hb, fun m hm => Nat.le_trans (hlen.2.2.2.1 m hm) (by decide)⟩
    have cr : Con Tryd.prog env 38 [.agg [I (numO o1), I (numO o2), I (numO o3), Il (setOf (numO o5)), Il vs, .seq 2 (ms.map memAV), .seq 2 (tms.map tmAV), B (((numO o4 : Nat) : Int) == 1)]] (B (rightB r)) := by
      have := w_rightR_con env r hlite
      rw [hr] at this ⊢
      exact this
    unfold restAV at tr
    refine aops_call' rfl (tr) (by simp only [go_sem, reduceIte, reduceCtorEq, Nat.reduceAdd, Nat.reduceSub, Nat.reduceEqDiff, Nat.reduceLT, Nat.reduceLeDiff, Nat.reduceMul, ↓reduceIte, Int.reduceToNat, Int.reduceBEq, Int.reduceBNe, Int.reduceEq, Int.reduceLT, Int.reduceLE, bookC, atI]; exact Is.rfl') (by simp only [go_sem, reduceIte, reduceCtorEq, Nat.reduceAdd, Nat.reduceSub, Nat.reduceEqDiff, Nat.reduceLT, Nat.reduceLeDiff, Nat.reduceMul, ↓reduceIte, Int.reduceToNat, Int.reduceBEq, Int.reduceBNe, Int.reduceEq, Int.reduceLT, Int.reduceLE, bookC, atI]; exact ⟨rfl, rfl⟩) ?_
    repeat (first | refine aops_op' rfl (by simp only [go_sem, reduceIte, reduceCtorEq, Nat.reduceAdd, Nat.reduceSub, Nat.reduceEqDiff, Nat.reduceLT, Nat.reduceLeDiff, Nat.reduceMul, ↓reduceIte, Int.reduceToNat, Int.reduceBEq, Int.reduceBNe, Int.reduceEq, Int.reduceLT, Int.reduceLE, bookC, atI]; exact ⟨rfl, rfl⟩) ?_ | refine g_run ?_ | refine g_off ?_ | refine aops_nil (d_end ?_) | refine aops_nil ?_ | refine awp_seq ?_ | refine g_text ?_ | refine g_draw Tryd.mixed ?_ | refine awp_block ?_ | refine awp_skip ?_ | (refine awp_exit ?_; simp only [thenA, blockA, ↓reduceIte, Nat.reduceEqDiff, reduceCtorEq]))
    refine aops_call' rfl (cr) (by simp only [go_sem, reduceIte, reduceCtorEq, Nat.reduceAdd, Nat.reduceSub, Nat.reduceEqDiff, Nat.reduceLT, Nat.reduceLeDiff, Nat.reduceMul, ↓reduceIte, Int.reduceToNat, Int.reduceBEq, Int.reduceBNe, Int.reduceEq, Int.reduceLT, Int.reduceLE, bookC, atI]; exact Is.rfl') (by simp only [go_sem, reduceIte, reduceCtorEq, Nat.reduceAdd, Nat.reduceSub, Nat.reduceEqDiff, Nat.reduceLT, Nat.reduceLeDiff, Nat.reduceMul, ↓reduceIte, Int.reduceToNat, Int.reduceBEq, Int.reduceBNe, Int.reduceEq, Int.reduceLT, Int.reduceLE, bookC, atI]; exact ⟨rfl, rfl⟩) ?_
    by_cases hright : rightB r = true
    · have cp : Con Tryd.prog env 40 [.agg [I (numO o1), I (numO o2), I (numO o3), Il (setOf (numO o5)), Il vs, .seq 2 (ms.map memAV), .seq 2 (tms.map tmAV), B (((numO o4 : Nat) : Int) == 1)]] (Bs (recBs r)) := by
        have := w_putR_con env r hright
        rw [hr] at this ⊢
        exact this
      have cs := w_sameBytes_con env (recBs r) b (recBs_len hright)
      by_cases he : (recBs r == b) = true
      · have hg : getAV b = .tuple [.agg (recAV r), B true] := by
          unfold getAV getR
          rw [hp, Option.bind_some, if_pos ⟨hright, by simpa using he⟩]
        rw [hg]
        repeat (first | refine aops_op' rfl (by simp only [go_sem, reduceIte, reduceCtorEq, Nat.reduceAdd, Nat.reduceSub, Nat.reduceEqDiff, Nat.reduceLT, Nat.reduceLeDiff, Nat.reduceMul, ↓reduceIte, Int.reduceToNat, Int.reduceBEq, Int.reduceBNe, Int.reduceEq, Int.reduceLT, Int.reduceLE, bookC, atI, hright, he]; exact ⟨rfl, rfl⟩) ?_ | refine g_run ?_ | refine g_off ?_ | refine aops_nil (d_end ?_) | refine aops_nil ?_ | refine awp_seq ?_ | refine g_text ?_ | refine g_draw Tryd.mixed ?_ | refine awp_block ?_ | refine awp_skip ?_ | (refine awp_exit ?_; simp only [thenA, blockA, ↓reduceIte, Nat.reduceEqDiff, reduceCtorEq]))
        refine aops_call' rfl (cp) (by simp only [go_sem, reduceIte, reduceCtorEq, Nat.reduceAdd, Nat.reduceSub, Nat.reduceEqDiff, Nat.reduceLT, Nat.reduceLeDiff, Nat.reduceMul, ↓reduceIte, Int.reduceToNat, Int.reduceBEq, Int.reduceBNe, Int.reduceEq, Int.reduceLT, Int.reduceLE, bookC, atI, hright, he]; exact Is.rfl') (by simp only [go_sem, reduceIte, reduceCtorEq, Nat.reduceAdd, Nat.reduceSub, Nat.reduceEqDiff, Nat.reduceLT, Nat.reduceLeDiff, Nat.reduceMul, ↓reduceIte, Int.reduceToNat, Int.reduceBEq, Int.reduceBNe, Int.reduceEq, Int.reduceLT, Int.reduceLE, bookC, atI, hright, he]; exact ⟨rfl, rfl⟩) ?_
        repeat (first | refine aops_op' rfl (by simp only [go_sem, reduceIte, reduceCtorEq, Nat.reduceAdd, Nat.reduceSub, Nat.reduceEqDiff, Nat.reduceLT, Nat.reduceLeDiff, Nat.reduceMul, ↓reduceIte, Int.reduceToNat, Int.reduceBEq, Int.reduceBNe, Int.reduceEq, Int.reduceLT, Int.reduceLE, bookC, atI, hright, he]; exact ⟨rfl, rfl⟩) ?_ | refine g_run ?_ | refine g_off ?_ | refine aops_nil (d_end ?_) | refine aops_nil ?_ | refine awp_seq ?_ | refine g_text ?_ | refine g_draw Tryd.mixed ?_ | refine awp_block ?_ | refine awp_skip ?_ | (refine awp_exit ?_; simp only [thenA, blockA, ↓reduceIte, Nat.reduceEqDiff, reduceCtorEq]))
        refine aops_call' rfl (cs) (by simp only [go_sem, reduceIte, reduceCtorEq, Nat.reduceAdd, Nat.reduceSub, Nat.reduceEqDiff, Nat.reduceLT, Nat.reduceLeDiff, Nat.reduceMul, ↓reduceIte, Int.reduceToNat, Int.reduceBEq, Int.reduceBNe, Int.reduceEq, Int.reduceLT, Int.reduceLE, bookC, atI, hright, he]; exact Is.rfl') (by simp only [go_sem, reduceIte, reduceCtorEq, Nat.reduceAdd, Nat.reduceSub, Nat.reduceEqDiff, Nat.reduceLT, Nat.reduceLeDiff, Nat.reduceMul, ↓reduceIte, Int.reduceToNat, Int.reduceBEq, Int.reduceBNe, Int.reduceEq, Int.reduceLT, Int.reduceLE, bookC, atI, hright, he]; exact ⟨rfl, rfl⟩) ?_
        repeat (first | refine aops_op' rfl (by simp only [go_sem, reduceIte, reduceCtorEq, Nat.reduceAdd, Nat.reduceSub, Nat.reduceEqDiff, Nat.reduceLT, Nat.reduceLeDiff, Nat.reduceMul, ↓reduceIte, Int.reduceToNat, Int.reduceBEq, Int.reduceBNe, Int.reduceEq, Int.reduceLT, Int.reduceLE, bookC, atI, hright, he]; exact ⟨rfl, rfl⟩) ?_ | refine g_run ?_ | refine g_off ?_ | refine aops_nil (d_end ?_) | refine aops_nil ?_ | refine awp_seq ?_ | refine g_text ?_ | refine g_draw Tryd.mixed ?_ | refine awp_block ?_ | refine awp_skip ?_ | (refine awp_exit ?_; simp only [thenA, blockA, ↓reduceIte, Nat.reduceEqDiff, reduceCtorEq]))
        refine awp_no' (by simp only [go_sem, reduceIte, reduceCtorEq, Nat.reduceAdd, Nat.reduceSub, Nat.reduceEqDiff, Nat.reduceLT, Nat.reduceLeDiff, Nat.reduceMul, ↓reduceIte, Int.reduceToNat, Int.reduceBEq, Int.reduceBNe, Int.reduceEq, Int.reduceLT, Int.reduceLE, bookC, atI, hright, he]; exact Is.rfl') ?_
        repeat (first | refine aops_op' rfl (by simp only [go_sem, reduceIte, reduceCtorEq, Nat.reduceAdd, Nat.reduceSub, Nat.reduceEqDiff, Nat.reduceLT, Nat.reduceLeDiff, Nat.reduceMul, ↓reduceIte, Int.reduceToNat, Int.reduceBEq, Int.reduceBNe, Int.reduceEq, Int.reduceLT, Int.reduceLE, bookC, atI, hright, he]; exact ⟨rfl, rfl⟩) ?_ | refine g_run ?_ | refine g_off ?_ | refine aops_nil (d_end ?_) | refine aops_nil ?_ | refine awp_seq ?_ | refine g_text ?_ | refine g_draw Tryd.mixed ?_ | refine awp_block ?_ | refine awp_skip ?_ | (refine awp_exit ?_; simp only [thenA, blockA, ↓reduceIte, Nat.reduceEqDiff, reduceCtorEq]))
        (refine awp_ret ?_; show (resRd _ _ _).run _ = some _; simp only [go_sem, reduceIte, reduceCtorEq, Nat.reduceAdd, Nat.reduceSub, Nat.reduceEqDiff, Nat.reduceLT, Nat.reduceLeDiff, Nat.reduceMul, ↓reduceIte, Int.reduceToNat, Int.reduceBEq, Int.reduceBNe, Int.reduceEq, Int.reduceLT, Int.reduceLE, bookC, atI, hright, he])
        rw [hr]
        rfl
      · have hg : getAV b = .tuple [.agg zeroR, B false] := by
          unfold getAV getR
          rw [hp, Option.bind_some, if_neg (fun hh => he (by simpa using hh.2))]
        have he : (recBs r == b) = false := by simpa using he
        rw [hg]
        repeat (first | refine aops_op' rfl (by simp only [go_sem, reduceIte, reduceCtorEq, Nat.reduceAdd, Nat.reduceSub, Nat.reduceEqDiff, Nat.reduceLT, Nat.reduceLeDiff, Nat.reduceMul, ↓reduceIte, Int.reduceToNat, Int.reduceBEq, Int.reduceBNe, Int.reduceEq, Int.reduceLT, Int.reduceLE, bookC, atI, hright, he]; exact ⟨rfl, rfl⟩) ?_ | refine g_run ?_ | refine g_off ?_ | refine aops_nil (d_end ?_) | refine aops_nil ?_ | refine awp_seq ?_ | refine g_text ?_ | refine g_draw Tryd.mixed ?_ | refine awp_block ?_ | refine awp_skip ?_ | (refine awp_exit ?_; simp only [thenA, blockA, ↓reduceIte, Nat.reduceEqDiff, reduceCtorEq]))
        refine aops_call' rfl (cp) (by simp only [go_sem, reduceIte, reduceCtorEq, Nat.reduceAdd, Nat.reduceSub, Nat.reduceEqDiff, Nat.reduceLT, Nat.reduceLeDiff, Nat.reduceMul, ↓reduceIte, Int.reduceToNat, Int.reduceBEq, Int.reduceBNe, Int.reduceEq, Int.reduceLT, Int.reduceLE, bookC, atI, hright, he]; exact Is.rfl') (by simp only [go_sem, reduceIte, reduceCtorEq, Nat.reduceAdd, Nat.reduceSub, Nat.reduceEqDiff, Nat.reduceLT, Nat.reduceLeDiff, Nat.reduceMul, ↓reduceIte, Int.reduceToNat, Int.reduceBEq, Int.reduceBNe, Int.reduceEq, Int.reduceLT, Int.reduceLE, bookC, atI, hright, he]; exact ⟨rfl, rfl⟩) ?_
        repeat (first | refine aops_op' rfl (by simp only [go_sem, reduceIte, reduceCtorEq, Nat.reduceAdd, Nat.reduceSub, Nat.reduceEqDiff, Nat.reduceLT, Nat.reduceLeDiff, Nat.reduceMul, ↓reduceIte, Int.reduceToNat, Int.reduceBEq, Int.reduceBNe, Int.reduceEq, Int.reduceLT, Int.reduceLE, bookC, atI, hright, he]; exact ⟨rfl, rfl⟩) ?_ | refine g_run ?_ | refine g_off ?_ | refine aops_nil (d_end ?_) | refine aops_nil ?_ | refine awp_seq ?_ | refine g_text ?_ | refine g_draw Tryd.mixed ?_ | refine awp_block ?_ | refine awp_skip ?_ | (refine awp_exit ?_; simp only [thenA, blockA, ↓reduceIte, Nat.reduceEqDiff, reduceCtorEq]))
        refine aops_call' rfl (cs) (by simp only [go_sem, reduceIte, reduceCtorEq, Nat.reduceAdd, Nat.reduceSub, Nat.reduceEqDiff, Nat.reduceLT, Nat.reduceLeDiff, Nat.reduceMul, ↓reduceIte, Int.reduceToNat, Int.reduceBEq, Int.reduceBNe, Int.reduceEq, Int.reduceLT, Int.reduceLE, bookC, atI, hright, he]; exact Is.rfl') (by simp only [go_sem, reduceIte, reduceCtorEq, Nat.reduceAdd, Nat.reduceSub, Nat.reduceEqDiff, Nat.reduceLT, Nat.reduceLeDiff, Nat.reduceMul, ↓reduceIte, Int.reduceToNat, Int.reduceBEq, Int.reduceBNe, Int.reduceEq, Int.reduceLT, Int.reduceLE, bookC, atI, hright, he]; exact ⟨rfl, rfl⟩) ?_
        repeat (first | refine aops_op' rfl (by simp only [go_sem, reduceIte, reduceCtorEq, Nat.reduceAdd, Nat.reduceSub, Nat.reduceEqDiff, Nat.reduceLT, Nat.reduceLeDiff, Nat.reduceMul, ↓reduceIte, Int.reduceToNat, Int.reduceBEq, Int.reduceBNe, Int.reduceEq, Int.reduceLT, Int.reduceLE, bookC, atI, hright, he]; exact ⟨rfl, rfl⟩) ?_ | refine g_run ?_ | refine g_off ?_ | refine aops_nil (d_end ?_) | refine aops_nil ?_ | refine awp_seq ?_ | refine g_text ?_ | refine g_draw Tryd.mixed ?_ | refine awp_block ?_ | refine awp_skip ?_ | (refine awp_exit ?_; simp only [thenA, blockA, ↓reduceIte, Nat.reduceEqDiff, reduceCtorEq]))
        refine awp_yes' (by simp only [go_sem, reduceIte, reduceCtorEq, Nat.reduceAdd, Nat.reduceSub, Nat.reduceEqDiff, Nat.reduceLT, Nat.reduceLeDiff, Nat.reduceMul, ↓reduceIte, Int.reduceToNat, Int.reduceBEq, Int.reduceBNe, Int.reduceEq, Int.reduceLT, Int.reduceLE, bookC, atI, hright, he]; exact Is.rfl') ?_
        repeat (first | refine aops_op' rfl (by simp only [go_sem, reduceIte, reduceCtorEq, Nat.reduceAdd, Nat.reduceSub, Nat.reduceEqDiff, Nat.reduceLT, Nat.reduceLeDiff, Nat.reduceMul, ↓reduceIte, Int.reduceToNat, Int.reduceBEq, Int.reduceBNe, Int.reduceEq, Int.reduceLT, Int.reduceLE, bookC, atI, hright, he]; exact ⟨rfl, rfl⟩) ?_ | refine g_run ?_ | refine g_off ?_ | refine aops_nil (d_end ?_) | refine aops_nil ?_ | refine awp_seq ?_ | refine g_text ?_ | refine g_draw Tryd.mixed ?_ | refine awp_block ?_ | refine awp_skip ?_ | (refine awp_exit ?_; simp only [thenA, blockA, ↓reduceIte, Nat.reduceEqDiff, reduceCtorEq]))
        (refine awp_ret ?_; show (resRd _ _ _).run _ = some _; simp only [go_sem, reduceIte, reduceCtorEq, Nat.reduceAdd, Nat.reduceSub, Nat.reduceEqDiff, Nat.reduceLT, Nat.reduceLeDiff, Nat.reduceMul, ↓reduceIte, Int.reduceToNat, Int.reduceBEq, Int.reduceBNe, Int.reduceEq, Int.reduceLT, Int.reduceLE, bookC, atI, hright, he])
        rfl
    · have hright : rightB r = false := by simpa using hright
      have hg : getAV b = .tuple [.agg zeroR, B false] := by unfold getAV getR; rw [hp, Option.bind_some, hright]; rfl
      rw [hg]
      repeat (first | refine aops_op' rfl (by simp only [go_sem, reduceIte, reduceCtorEq, Nat.reduceAdd, Nat.reduceSub, Nat.reduceEqDiff, Nat.reduceLT, Nat.reduceLeDiff, Nat.reduceMul, ↓reduceIte, Int.reduceToNat, Int.reduceBEq, Int.reduceBNe, Int.reduceEq, Int.reduceLT, Int.reduceLE, bookC, atI, hright]; exact ⟨rfl, rfl⟩) ?_ | refine g_run ?_ | refine g_off ?_ | refine aops_nil (d_end ?_) | refine aops_nil ?_ | refine awp_seq ?_ | refine g_text ?_ | refine g_draw Tryd.mixed ?_ | refine awp_block ?_ | refine awp_skip ?_ | (refine awp_exit ?_; simp only [thenA, blockA, ↓reduceIte, Nat.reduceEqDiff, reduceCtorEq]))
      refine awp_yes' (by simp only [go_sem, reduceIte, reduceCtorEq, Nat.reduceAdd, Nat.reduceSub, Nat.reduceEqDiff, Nat.reduceLT, Nat.reduceLeDiff, Nat.reduceMul, ↓reduceIte, Int.reduceToNat, Int.reduceBEq, Int.reduceBNe, Int.reduceEq, Int.reduceLT, Int.reduceLE, bookC, atI, hright]; exact Is.rfl') ?_
      repeat (first | refine aops_op' rfl (by simp only [go_sem, reduceIte, reduceCtorEq, Nat.reduceAdd, Nat.reduceSub, Nat.reduceEqDiff, Nat.reduceLT, Nat.reduceLeDiff, Nat.reduceMul, ↓reduceIte, Int.reduceToNat, Int.reduceBEq, Int.reduceBNe, Int.reduceEq, Int.reduceLT, Int.reduceLE, bookC, atI, hright]; exact ⟨rfl, rfl⟩) ?_ | refine g_run ?_ | refine g_off ?_ | refine aops_nil (d_end ?_) | refine aops_nil ?_ | refine awp_seq ?_ | refine g_text ?_ | refine g_draw Tryd.mixed ?_ | refine awp_block ?_ | refine awp_skip ?_ | (refine awp_exit ?_; simp only [thenA, blockA, ↓reduceIte, Nat.reduceEqDiff, reduceCtorEq]))
      (refine awp_ret ?_; show (resRd _ _ _).run _ = some _; simp only [go_sem, reduceIte, reduceCtorEq, Nat.reduceAdd, Nat.reduceSub, Nat.reduceEqDiff, Nat.reduceLT, Nat.reduceLeDiff, Nat.reduceMul, ↓reduceIte, Int.reduceToNat, Int.reduceBEq, Int.reduceBNe, Int.reduceEq, Int.reduceLT, Int.reduceLE, bookC, atI, hright])
      rfl
end Go.Proofs.YtbleibmjippmpaaDoor
