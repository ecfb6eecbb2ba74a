/- The law EnterDomains; a nil table. -/
import Derived.Test.YtlmekdfleciejaaGreatDoorG1
import Derived.Test.YtlmekdfleciejaaGreatDoorG11
import Derived.Test.YtlmekdfleciejaaGreatDoorM8
import Derived.Test.YtlmekdfleciejaaGreatDoorG2
set_option linter.unusedSimpArgs false
namespace Go.Proofs.YtlmekdfleciejaaGreatDoor
open Go.RowKit
set_option maxRecDepth 100000
set_option maxHeartbeats 8000000
theorem light30_con (env : Env) (c : ChD) : Con Tryz.prog env 66 [.agg (chAV c)] (B (lightTB c)) := by
  unfold lightTB
  by_cases h1 : (c.states.length : Int) ≤ 40 <;> by_cases h2 : (c.trans.length : Int) ≤ 70 <;> by_cases h3 : (c.vars.length : Int) ≤ 10
  all_goals (refine con_of_body Tryz.func66 rfl Tryz.call66 (by rw [Tryz.ntmps66]; simp) ?_
             rw [Tryz.ntmps66, Tryz.results66])
  all_goals have F := And.intro chAV.eq_1 <| And.intro h1 <| And.intro h2 <| h3
  all_goals (repeat refine st ?_)
  all_goals ((refine awp_ret ?_; show (resRd _ _ _).run _ = some _; simp only [go_sem, F]))
theorem made30_none (env : Env) (c : ChD) (h : goodB c = false) : Con Tryz.prog env 43 [.agg (chAV c)] (.lit (.pointer none)) := by
  have f0 := light30_con env c
  have f1 := rRight_con env c
  unfold goodB at h
  cases h1 : lightTB c
  · rw [h1] at f0
    refine con_of_body Tryz.func43 rfl Tryz.call43 (by rw [Tryz.ntmps43]; simp) ?_
    rw [Tryz.ntmps43, Tryz.results43]
    repeat (first | refine st0 ?_ | refine cC0 f0 ?_ | refine cC0 f1 ?_)
    exact aR0
  · rw [h1] at f0
    rw [h1, Bool.true_and] at h
    rw [h] at f1
    refine con_of_body Tryz.func43 rfl Tryz.call43 (by rw [Tryz.ntmps43]; simp) ?_
    rw [Tryz.ntmps43, Tryz.results43]
    repeat (first | refine st0 ?_ | refine cC0 f0 ?_ | refine cC0 f1 ?_)
    exact aR0
theorem made30_con (env : Env) (a1 a8 : Addr) (he : ChEnv env a1 a8) (hT : ∀ W, env.inv W → TabAt W) (c : ChD) (hcf : few_ch c) (h : goodB c = true) : Con Tryz.prog env 43 [.agg (chAV c)] (tabAV c) := by
  have f0 := light30_con env c
  have f1 := rRight_con env c
  unfold goodB at h
  rw [Bool.and_eq_true] at h
  rw [h.1] at f0
  rw [h.2] at f1
  rw [beq_iff_eq] at h
  have f2 := table_con env a1 a8 he hT c (chk_at h.2) hcf
  unfold tabAV at f2 ⊢
  refine con_of_body Tryz.func43 rfl Tryz.call43 (by rw [Tryz.ntmps43]; simp) ?_
  rw [Tryz.ntmps43, Tryz.results43]
  repeat (first | refine st0 ?_ | refine cC0 f0 ?_ | refine cC0 f1 ?_ | refine cC0 f2 ?_)
  exact aR0
theorem good_ok {c : ChD} (h : goodB c = true) : (chk c).1 = 0 := by
  unfold goodB at h
  rw [Bool.and_eq_true, beq_iff_eq] at h
  exact h.2
theorem tells30_con (ad : Nat → Addr) (mo : More) (k : Nat) (hk : 1 ≤ k ∧ k ≤ 9) (p : Int) (ps : List Int) : Con Tryz.prog (errEnv ad mo) 58 [errV p (chainV ps (sentV (ad k))), I k] (B true) := by
  have f0 : Con Tryz.prog (errEnv ad mo) 97 [errV p (chainV ps (sentV (ad k)))] (I k) := code_chain ad mo k hk (p :: ps)
  have b0 : (((k : Nat) : Int) == 0) = false := by simp; omega
  generalize chainV ps (sentV (ad k)) = X at *
  refine con_of_body Tryz.func58 rfl Tryz.call58 (by rw [Tryz.ntmps58]; simp) ?_
  rw [Tryz.ntmps58, Tryz.results58]
  have F := b0
  repeat (first | refine st ?_ | refine cC f0 ?_)
  exact aR
def wakeE : ChD := ⟨[99], 0, [], [⟨[97], 1, -1, 1, [], []⟩, ⟨[98], 1, 0, -1, [], []⟩, ⟨[100], 1, 0, -1, [], []⟩], [⟨1, [], [], [], 2⟩]⟩
def wakeEAV : List AV := [Sg [99], I 0, nilS, .seq 6 [[Sg [97], I 1, I (-1), I 1, nilS, nilS], [Sg [98], I 1, I 0, I (-1), nilS, nilS], [Sg [100], I 1, I 0, I (-1), nilS, nilS]], .seq 5 [[I 1, Sg [], nilS, nilS, I 2]]]
theorem st_strE (n : List UInt8) (k p i : Int) : Strs [Sg n, I k, I p, I i, nilS, nilS] (stAV ⟨n, k, p, i, [], []⟩) := .cons (.refl _) (.cons (.refl _) (.cons (.refl _) (.cons (.refl _) (.cons (.nil 4) (.cons (.nil 4) .nil)))))
theorem wakeE_str : Strs [.agg wakeEAV] [.agg (chAV wakeE)] := by
  refine .one (.agg (.cons (.refl _) (.cons (.refl _) (.cons (.nil 2) (.cons (.seqs ?_) (.cons (.seqs ?_) .nil))))))
  · exact .cons (st_strE ..) (.cons (st_strE ..) (.cons (st_strE ..) .nil))
  · exact .cons (.cons (.refl _) (.cons (.refl _) (.cons (.nil 2) (.cons (.nil 4) (.cons (.refl _) .nil))))) .nil
theorem wakeE_few : few_ch wakeE := by simp [few_ch, few_st, few_tr, wakeE, maxLen]
theorem wakeE_chk : chk wakeE = (0, -1) := by decide +kernel
theorem wakeE_gone : leaveR wakeE [0, 1] ⟨1, [], [], [], 2⟩ = [1] := by decide +kernel
theorem wakeE_tgt : tgtL wakeE 1 2 [] = [2] := by decide +kernel
theorem wakeE_moved : moved [1] [0, 1] [2] = [0, 2] := by
  have h1 : stayL [1] [0, 1] ++ zL [2] = [0, 2] := by decide +kernel
  have h2 : sortZ [0, 2] = [0, 2] := List.mergeSort_of_pairwise (by decide)
  unfold moved
  rw [h1, h2]
  decide +kernel
theorem plainE_con (env : Env) (n : List UInt8) (p i : Int) : Con Tryz.prog env 100 [Sg n, I p, I i] (.agg [Sg n, I 1, I p, I i, nilS, nilS]) := by
  refine con_of_body Tryz.func100 rfl Tryz.call100 (by rw [Tryz.ntmps100]; simp) ?_
  rw [Tryz.ntmps100, Tryz.results100]
  repeat refine st0 ?_
  exact aR0
theorem awake30_con (env : Env) (a1 a8 : Addr) (he : ChEnv env a1 a8) (hT : ∀ W, env.inv W → TabAt W) : Con Tryz.prog env 45 [] (B true) := by
  have h0 : (chk wakeE).1 = 0 := by rw [wakeE_chk]
  have h := full_of h0
  have hsm := small_of h0
  have f0 := (table_con env a1 a8 he hT wakeE wakeE_chk wakeE_few).args wakeE_str
  have f1 := move0_con env a1 a8 he wakeE h hsm [0, 1] (by decide) 0 ⟨1, [], [], [], 2⟩ rfl (by decide +kernel) (by decide +kernel) (by rw [wakeE_gone]; decide) (fun x hx => by rw [wakeE_gone] at hx; rw [List.mem_singleton.1 hx]; decide +kernel) (by rw [wakeE_tgt]; decide)
  rw [wakeE_gone, wakeE_tgt, wakeE_moved] at f1
  have f2 := sameInts_con env [0, 2] [0, 2] (by decide)
  rw [decide_eq_true rfl] at f2
  have p1 := plainE_con env [97] (-1) 1
  have p2 := plainE_con env [98] 0 (-1)
  have p3 := plainE_con env [100] 0 (-1)
  change Con _ _ _ [_, .seq 1 [[I 0], [I 1]], I 0, nilS] (.tuple [.seq 1 [[I 0], [I 2]], nilS, nilE]) at f1
  change Con _ _ _ [.seq 1 [[I 0], [I 2]], .seq 1 [[I 0], [I 2]]] _ at f2
  unfold wakeEAV at f0
  unfold tabAV at f0 f1
  generalize tabCells wakeE = T at *
  refine con_of_body Tryz.func45 rfl Tryz.call45 (by rw [Tryz.ntmps45]; simp) ?_
  rw [Tryz.ntmps45, Tryz.results45]
  repeat (first | refine st0 ?_ | refine cC0 p1 ?_ | refine cC0 p2 ?_ | refine cC0 p3 ?_ | refine cC0 f0 ?_ | refine cC0 f1 ?_ | refine cC0 f2 ?_)
  exact aR0
end Go.Proofs.YtlmekdfleciejaaGreatDoor
set_option linter.unusedSimpArgs false
namespace Go.Proofs.YtlmekdfleciejaaGreatDoor
open Go.RowKit
set_option maxRecDepth 100000
set_option maxHeartbeats 8000000
abbrev nilQ : AV := .lit (.pointer none)
theorem qChart_con (env : Env) : Con Tryz.prog env 17 [nilQ] (.agg [Sg [], I 0, nilS, nilS, nilS]) := by
  refine con_of_body Tryz.func17 rfl Tryz.call17 (by rw [Tryz.ntmps17]; simp) ?_
  rw [Tryz.ntmps17, Tryz.results17]
  repeat refine st0 ?_
  exact aR0
theorem qTran_con (env : Env) (n : Int) : Con Tryz.prog env 105 [nilQ, I n] (.tuple [noTr, B false]) := by
  have f0 := qChart_con env
  by_cases h0 : n < 0
  · refine con_of_body Tryz.func105 rfl Tryz.call105 (by rw [Tryz.ntmps105]; simp) ?_
    rw [Tryz.ntmps105, Tryz.results105]
    have F := h0
    repeat (first | refine st ?_ | refine cC f0 ?_)
    exact aR
  · have h1 : 0 ≤ n := by omega
    refine con_of_body Tryz.func105 rfl Tryz.call105 (by rw [Tryz.ntmps105]; simp) ?_
    rw [Tryz.ntmps105, Tryz.results105]
    have F := And.intro h0 <| h1
    repeat (first | refine st ?_ | refine cC f0 ?_)
    exact aR
theorem qDomain_con (env : Env) (n : Int) : Con Tryz.prog env 56 [nilQ, I n] (.tuple [I 0, B false]) := by
  have f0 := qTran_con env n
  refine con_of_body Tryz.func56 rfl Tryz.call56 (by rw [Tryz.ntmps56]; simp) ?_
  rw [Tryz.ntmps56, Tryz.results56]
  repeat (first | refine st0 ?_ | refine cC0 f0 ?_)
  exact aR0
theorem qLegal_con (env : Env) (a : Addr) (h7 : env 0 = some (sentV a)) (X : AV) : Con Tryz.prog env 118 [nilQ, X] (errV (-1) (sentV a)) := by
  have g1 := gt_at h7
  have f1 := new_con env [108, 101, 103, 97, 108, 46, 67, 104, 101, 99, 107] a
  refine con_of_body Tryz.func118 rfl Tryz.call118 (by rw [Tryz.ntmps118]; simp) ?_
  rw [Tryz.ntmps118, Tryz.results118]
  have F := g1
  repeat (first | refine st ?_ | refine cC f1 ?_)
  exact aR
theorem qCheck_con (env : Env) (a : Addr) (h7 : env 0 = some (sentV a)) (X : AV) : Con Tryz.prog env 59 [nilQ, X] (errV (-1) (sentV a)) := by
  have g1 := gt_at h7
  have f1 := new_con env [101, 110, 116, 101, 114, 46, 67, 104, 101, 99, 107] a
  refine con_of_body Tryz.func59 rfl Tryz.call59 (by rw [Tryz.ntmps59]; simp) ?_
  rw [Tryz.ntmps59, Tryz.results59]
  have F := g1
  repeat (first | refine st ?_ | refine cC f1 ?_)
  exact aR
theorem qLeave_con (env : Env) (a : Addr) (h7 : env 0 = some (sentV a)) (n : Int) : Con Tryz.prog env 65 [nilQ, nilS, I n] (.tuple [nilS, errV (-1) (errV (-1) (sentV a))]) := by
  have f0 := qLegal_con env a h7 nilS
  have f1 := wrap_con env [101, 110, 116, 101, 114, 46, 76, 101, 97, 118, 101] (-1) (sentV a)
  refine con_of_body Tryz.func65 rfl Tryz.call65 (by rw [Tryz.ntmps65]; simp) ?_
  rw [Tryz.ntmps65, Tryz.results65]
  repeat (first | refine st0 ?_ | refine cC0 f0 ?_ | refine cC0 f1 ?_)
  exact aR0
theorem qTarget_con (env : Env) (a : Addr) (h7 : env 0 = some (sentV a)) (n : Int) : Con Tryz.prog env 62 [nilQ, I n, nilS] (.tuple [nilS, errV (-1) (errV (-1) (sentV a))]) := by
  have f0 := qCheck_con env a h7 nilS
  have f1 := wrap_con env [101, 110, 116, 101, 114, 46, 84, 97, 114, 103, 101, 116] (-1) (sentV a)
  refine con_of_body Tryz.func62 rfl Tryz.call62 (by rw [Tryz.ntmps62]; simp) ?_
  rw [Tryz.ntmps62, Tryz.results62]
  repeat (first | refine st0 ?_ | refine cC0 f0 ?_ | refine cC0 f1 ?_)
  exact aR0
theorem qRemember_con (env : Env) (a : Addr) (h7 : env 0 = some (sentV a)) : Con Tryz.prog env 63 [nilQ, nilS, nilS, nilS] (.tuple [nilS, errV (-1) (errV (-1) (sentV a))]) := by
  have f0 := qLegal_con env a h7 nilS
  have f1 := wrap_con env [101, 110, 116, 101, 114, 46, 82, 101, 109, 101, 109, 98, 101, 114] (-1) (sentV a)
  refine con_of_body Tryz.func63 rfl Tryz.call63 (by rw [Tryz.ntmps63]; simp) ?_
  rw [Tryz.ntmps63, Tryz.results63]
  repeat (first | refine st0 ?_ | refine cC0 f0 ?_ | refine cC0 f1 ?_)
  exact aR0
theorem qMove_con (env : Env) (a : Addr) (h7 : env 0 = some (sentV a)) (n : Int) : Con Tryz.prog env 51 [nilQ, nilS, I n, nilS] (.tuple [nilS, nilS, errV (-1) (errV (-1) (errV (-1) (sentV a)))]) := by
  have f0 := qLeave_con env a h7 n
  have f1 := wrap_con env [101, 110, 116, 101, 114, 46, 77, 111, 118, 101] (-1) (errV (-1) (sentV a))
  refine con_of_body Tryz.func51 rfl Tryz.call51 (by rw [Tryz.ntmps51]; simp) ?_
  rw [Tryz.ntmps51, Tryz.results51]
  repeat (first | refine st0 ?_ | refine cC0 f0 ?_ | refine cC0 f1 ?_)
  exact aR0
theorem lawEnterDomains_con (ad : Nat → Addr) (c : ChD) (hcf : few_ch c) (n : Int) : Con Tryz.prog (errEnv ad lgMore) 12 [.agg (chAV c), I n] (B true) := by
  have he := lgEnv_ch ad
  have h7 : (errEnv ad lgMore) 0 = some (sentV (ad 7)) := rfl
  have fa := awake30_con (errEnv ad lgMore) (ad 1) (ad 8) he (lgEnv_tab ad)
  have n1 := qDomain_con (errEnv ad lgMore) n
  have n2 := qLeave_con (errEnv ad lgMore) (ad 7) h7 n
  have n3 := qTarget_con (errEnv ad lgMore) (ad 7) h7 n
  have n4 := qMove_con (errEnv ad lgMore) (ad 7) h7 n
  have n5 := qRemember_con (errEnv ad lgMore) (ad 7) h7
  have n6 := qCheck_con (errEnv ad lgMore) (ad 7) h7 nilS
  have t1 : Con Tryz.prog (errEnv ad lgMore) 58 [errV (-1) (sentV (ad 7)), I 7] (B true) := tells30_con ad lgMore 7 (by omega) (-1) []
  have t2 : Con Tryz.prog (errEnv ad lgMore) 58 [errV (-1) (errV (-1) (sentV (ad 7))), I 7] (B true) := tells30_con ad lgMore 7 (by omega) (-1) [-1]
  have t3 : Con Tryz.prog (errEnv ad lgMore) 58 [errV (-1) (errV (-1) (errV (-1) (sentV (ad 7)))), I 7] (B true) := tells30_con ad lgMore 7 (by omega) (-1) [-1, -1]
  have f0 := light30_con (errEnv ad lgMore) c
  have f1 := rRight_con (errEnv ad lgMore) c
  generalize sentV (ad 7) = E at *
  cases hg : goodB c with
  | false =>
    have fm := made30_none (errEnv ad lgMore) c hg
    unfold goodB at hg
    cases h1 : lightTB c
    · rw [h1] at f0
      refine con_of_body Tryz.func12 rfl Tryz.call12 (by rw [Tryz.ntmps12]; simp) ?_
      rw [Tryz.ntmps12, Tryz.results12]
      repeat (first | refine st0 ?_ | refine cC0 n1 ?_ | refine cC0 n2 ?_ | refine cC0 n3 ?_ | refine cC0 n4 ?_ | refine cC0 n5 ?_ | refine cC0 n6 ?_ | refine cC0 t1 ?_ | refine cC0 t2 ?_ | refine cC0 t3 ?_ | refine cC0 fm ?_ | refine cC0 f0 ?_ | refine cC0 f1 ?_ | refine cC0 fa ?_)
      exact aR0
    · rw [h1] at f0
      rw [h1, Bool.true_and] at hg
      rw [hg] at f1
      refine con_of_body Tryz.func12 rfl Tryz.call12 (by rw [Tryz.ntmps12]; simp) ?_
      rw [Tryz.ntmps12, Tryz.results12]
      repeat (first | refine st0 ?_ | refine cC0 n1 ?_ | refine cC0 n2 ?_ | refine cC0 n3 ?_ | refine cC0 n4 ?_ | refine cC0 n5 ?_ | refine cC0 n6 ?_ | refine cC0 t1 ?_ | refine cC0 t2 ?_ | refine cC0 t3 ?_ | refine cC0 fm ?_ | refine cC0 f0 ?_ | refine cC0 f1 ?_ | refine cC0 fa ?_)
      exact aR0
  | true =>
    have h := good_full hg
    have hs := small_of (good_ok hg)
    have fm := made30_con (errEnv ad lgMore) (ad 1) (ad 8) he (lgEnv_tab ad) c hcf hg
    have f2 := rIs30_con (errEnv ad lgMore) c n
    cases ht : isT c n with
    | false =>
      rw [ht] at f2
      have f3 := DomainN_con (errEnv ad lgMore) c hs n ht
      unfold tabAV at fm f3
      refine con_of_body Tryz.func12 rfl Tryz.call12 (by rw [Tryz.ntmps12]; simp) ?_
      rw [Tryz.ntmps12, Tryz.results12]
      repeat (first | refine st0 ?_ | refine cC0 n1 ?_ | refine cC0 n2 ?_ | refine cC0 n3 ?_ | refine cC0 n4 ?_ | refine cC0 n5 ?_ | refine cC0 n6 ?_ | refine cC0 t1 ?_ | refine cC0 t2 ?_ | refine cC0 t3 ?_ | refine cC0 fm ?_ | refine cC0 f0 ?_ | refine cC0 f1 ?_ | refine cC0 f2 ?_ | refine cC0 f3 ?_ | refine cC0 fa ?_)
      exact aR0
    | true =>
      rw [ht] at f2
      obtain ⟨k, t, rfl, hk⟩ := isT_at ht
      have hk1 := (List.getElem?_eq_some_iff.1 hk).1
      have q0 : ((k : Nat) : Int) < (c.trans.length : Int) := by omega
      have f3 := Domain_con (errEnv ad lgMore) c h hs k t hk
      have f4 := rDomain30_con (errEnv ad lgMore) c h.toRight t (h.src hk).1
      unfold tabAV at fm f3
      unfold trAV at f4
      by_cases h0 : t.target < 0
      · rw [if_pos h0, decide_eq_true h0] at f3
        refine con_of_body Tryz.func12 rfl Tryz.call12 (by rw [Tryz.ntmps12]; simp) ?_
        rw [Tryz.ntmps12, Tryz.results12]
        have F := And.intro chAV.eq_1 <| And.intro trAV.eq_1 <| And.intro hk <| And.intro q0 <| h0
        repeat (first | refine st ?_ | refine cC n1 ?_ | refine cC n2 ?_ | refine cC n3 ?_ | refine cC n4 ?_ | refine cC n5 ?_ | refine cC n6 ?_ | refine cC t1 ?_ | refine cC t2 ?_ | refine cC t3 ?_ | refine cC fm ?_ | refine cC f0 ?_ | refine cC f1 ?_ | refine cC f2 ?_ | refine cC f3 ?_ | refine cC f4 ?_ | refine cC fa ?_)
        exact aR
      · rw [if_neg h0, decide_eq_false h0] at f3
        refine con_of_body Tryz.func12 rfl Tryz.call12 (by rw [Tryz.ntmps12]; simp) ?_
        rw [Tryz.ntmps12, Tryz.results12]
        have F := And.intro chAV.eq_1 <| And.intro trAV.eq_1 <| And.intro hk <| And.intro q0 <| h0
        repeat (first | refine st ?_ | refine cC n1 ?_ | refine cC n2 ?_ | refine cC n3 ?_ | refine cC n4 ?_ | refine cC n5 ?_ | refine cC n6 ?_ | refine cC t1 ?_ | refine cC t2 ?_ | refine cC t3 ?_ | refine cC fm ?_ | refine cC f0 ?_ | refine cC f1 ?_ | refine cC f2 ?_ | refine cC f3 ?_ | refine cC f4 ?_ | refine cC fa ?_)
        exact aR
end Go.Proofs.YtlmekdfleciejaaGreatDoor
