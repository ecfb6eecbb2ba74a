/- scriniumref24.Tran, Check: by the walk without memory. -/
import Derived.Test.YtlmekdfleciejaaGreatDoorM36
import Derived.Test.YtlmekdfleciejaaGreatDoorM6
import Derived.Test.YtlmekdfleciejaaGreatDoorM8
import Derived.Test.YtlmekdfleciejaaGreatDoorM37
import Derived.Test.YtlmekdfleciejaaGreatDoorM26
set_option linter.unusedSimpArgs false
namespace Go.Proofs.YtlmekdfleciejaaGreatDoor
open Go.RowKit
set_option maxRecDepth 100000
set_option maxHeartbeats 8000000
theorem rState_con (env : Env) (c : ChD) (hn : c.states.length ≤ 1000000) (i : Nat) (s : StD) (hs : c.states[i]? = some s) : Con Tryz.prog env 94 [.agg (chAV c), I i] (B (stateB c i s)) := by
  by_cases hp : s.parent = -1
  · exact rStateTop_con env c hn i s hs hp
  · exact rStateIn_con env c hn i s hs hp
theorem rTran_con (env : Env) (c : ChD) (t : TrD) : Con Tryz.prog env 96 [.agg (chAV c), .agg (trAV t)] (B (tranB c t)) := by
  have f2 := w_name_con env t.event
  have f3 := rCode_con env c t.guard
  have f4 := rActs_con env c t.acts
  have z1 := nil_len t.guard
  refine con_of_body Tryz.func96 rfl Tryz.call96 (by rw [Tryz.ntmps96]; simp) ?_
  rw [Tryz.ntmps96, Tryz.results96]
  by_cases p1 : t.src < 0
  · rw [show tranB c t = false by unfold tranB normAt at_; rw [if_neg (show ¬ 0 ≤ t.src by omega)]; rfl]
    have F := And.intro chAV.eq_1 <| And.intro trAV.eq_1 <| p1
    repeat refine st ?_
    exact aR
  obtain ⟨m, hm⟩ := nat_of (show 0 ≤ t.src by omega)
  have p1 : ¬ (m : Int) < 0 := by omega
  by_cases p2 : c.states.length ≤ m
  · have p2' : (c.states.length : Int) ≤ (m : Int) := by omega
    rw [show tranB c t = false by unfold tranB normAt; rw [hm, at_nat, List.getElem?_eq_none p2]; rfl]
    have F := And.intro chAV.eq_1 <| And.intro trAV.eq_1 <| And.intro hm <| And.intro p1 <| p2'
    repeat refine st ?_
    exact aR
  have p2' : ¬ (c.states.length : Int) ≤ (m : Int) := by omega
  have k0 := nlt (show m < c.states.length by omega)
  obtain ⟨q, hq, _⟩ := some_at (show m < c.states.length by omega)
  have f1 := rNormal_con env q
  have hnq : normAt c t.src = normB q := by unfold normAt; rw [hm, at_nat, hq]
  have hr : tranB c t = (normB q && ((t.event == []) || nameB t.event) && ((t.guard == []) || codeB t.guard c.vars.length c.states.length) && actsB c.vars.length c.states.length t.acts && ((t.target == -1) || (decide (0 ≤ t.target) && decide (t.target < c.states.length)))) := by unfold tranB; rw [hnq]
  rw [hr]
  cases e1 : normB q
  · rw [Bool.false_and, Bool.false_and, Bool.false_and, Bool.false_and]
    have F := And.intro chAV.eq_1 <| And.intro trAV.eq_1 <| And.intro stAV.eq_1 <| And.intro hm <| And.intro hq <| And.intro p1 <| And.intro p2' <| And.intro k0 <| e1
    repeat (first | refine st ?_ | refine cC f1 ?_)
    exact aR
  by_cases p3 : t.target < -1
  · rw [show ((t.target == -1) || (decide (0 ≤ t.target) && decide (t.target < c.states.length))) = false by rw [ne_beq (show t.target ≠ -1 by omega), decide_eq_false (show ¬ 0 ≤ t.target by omega)]; rfl, Bool.and_false]
    have F := And.intro chAV.eq_1 <| And.intro trAV.eq_1 <| And.intro stAV.eq_1 <| And.intro hm <| And.intro hq <| And.intro p1 <| And.intro p2' <| And.intro k0 <| e1
    repeat (first | refine oO rfl (by simp only [go_sem, p3, F]; exact ⟨rfl, rfl⟩) ?_ | refine gR ?_ | refine gO ?_ | refine oC rfl (f1) (by simp only [go_sem, p3, F]; exact iR) (by simp only [go_sem, p3, F]; exact ⟨rfl, rfl⟩) ?_ | refine oZ (d_end ?_) | refine oZ ?_ | refine oS ?_ | refine gT ?_ | refine gD Tryz.mixed ?_ | refine oB ?_ | refine oK ?_ | (refine oX ?_; simp only [thenA, blockA, ↓reduceIte, Nat.reduceEqDiff, reduceCtorEq]) | refine oY (by simp only [go_sem, p3, F]; exact iR) ?_ | refine oN (by simp only [go_sem, p3, F]; exact iR) ?_)
    (refine awp_ret ?_; show (resRd _ _ _).run _ = some _; simp only [go_sem, p3, F])
  by_cases p4 : (c.states.length : Int) ≤ t.target
  · rw [show ((t.target == -1) || (decide (0 ≤ t.target) && decide (t.target < c.states.length))) = false by rw [ne_beq (show t.target ≠ -1 by omega), decide_eq_false (show ¬ t.target < c.states.length by omega)]; simp, Bool.and_false]
    have F := And.intro chAV.eq_1 <| And.intro trAV.eq_1 <| And.intro stAV.eq_1 <| And.intro hm <| And.intro hq <| And.intro p1 <| And.intro p2' <| And.intro k0 <| e1
    repeat (first | refine oO rfl (by simp only [go_sem, p3, p4, F]; exact ⟨rfl, rfl⟩) ?_ | refine gR ?_ | refine gO ?_ | refine oC rfl (f1) (by simp only [go_sem, p3, p4, F]; exact iR) (by simp only [go_sem, p3, p4, F]; exact ⟨rfl, rfl⟩) ?_ | refine oZ (d_end ?_) | refine oZ ?_ | refine oS ?_ | refine gT ?_ | refine gD Tryz.mixed ?_ | refine oB ?_ | refine oK ?_ | (refine oX ?_; simp only [thenA, blockA, ↓reduceIte, Nat.reduceEqDiff, reduceCtorEq]) | refine oY (by simp only [go_sem, p3, p4, F]; exact iR) ?_ | refine oN (by simp only [go_sem, p3, p4, F]; exact iR) ?_)
    (refine awp_ret ?_; show (resRd _ _ _).run _ = some _; simp only [go_sem, p3, p4, F])
  rw [show ((t.target == -1) || (decide (0 ≤ t.target) && decide (t.target < c.states.length))) = true by rw [Bool.or_eq_true, Bool.and_eq_true]; simp; omega, Bool.and_true, Bool.true_and]
  cases e2 : (t.event == [])
  · rw [Bool.false_or]
    cases e3 : nameB t.event
    · rw [Bool.false_and, Bool.false_and]
      have F := And.intro chAV.eq_1 <| And.intro trAV.eq_1 <| And.intro stAV.eq_1 <| And.intro hm <| And.intro hq <| And.intro p1 <| And.intro p2' <| And.intro k0 <| And.intro e1 <| And.intro e2 <| e3
      repeat (first | refine oO rfl (by simp only [go_sem, p3, p4, F]; exact ⟨rfl, rfl⟩) ?_ | refine gR ?_ | refine gO ?_ | refine oC rfl (f1) (by simp only [go_sem, p3, p4, F]; exact iR) (by simp only [go_sem, p3, p4, F]; exact ⟨rfl, rfl⟩) ?_ | refine oC rfl (f2) (by simp only [go_sem, p3, p4, F]; exact iR) (by simp only [go_sem, p3, p4, F]; exact ⟨rfl, rfl⟩) ?_ | refine oZ (d_end ?_) | refine oZ ?_ | refine oS ?_ | refine gT ?_ | refine gD Tryz.mixed ?_ | refine oB ?_ | refine oK ?_ | (refine oX ?_; simp only [thenA, blockA, ↓reduceIte, Nat.reduceEqDiff, reduceCtorEq]) | refine oY (by simp only [go_sem, p3, p4, F]; exact iR) ?_ | refine oN (by simp only [go_sem, p3, p4, F]; exact iR) ?_)
      (refine awp_ret ?_; show (resRd _ _ _).run _ = some _; simp only [go_sem, p3, p4, F])
    rw [Bool.true_and]
    cases e4 : (t.guard == [])
    · rw [Bool.false_or]
      cases e5 : codeB t.guard c.vars.length c.states.length
      · rw [Bool.false_and]
        have F := And.intro chAV.eq_1 <| And.intro trAV.eq_1 <| And.intro stAV.eq_1 <| And.intro hm <| And.intro hq <| And.intro p1 <| And.intro p2' <| And.intro k0 <| And.intro e1 <| And.intro e2 <| And.intro e3 <| And.intro z1 <| And.intro e4 <| e5
        repeat (first | refine oO rfl (by simp only [go_sem, p3, p4, F]; exact ⟨rfl, rfl⟩) ?_ | refine gR ?_ | refine gO ?_ | refine oC rfl (f1) (by simp only [go_sem, p3, p4, F]; exact iR) (by simp only [go_sem, p3, p4, F]; exact ⟨rfl, rfl⟩) ?_ | refine oC rfl (f2) (by simp only [go_sem, p3, p4, F]; exact iR) (by simp only [go_sem, p3, p4, F]; exact ⟨rfl, rfl⟩) ?_ | refine oC rfl (f3) (by simp only [go_sem, p3, p4, F]; exact iR) (by simp only [go_sem, p3, p4, F]; exact ⟨rfl, rfl⟩) ?_ | refine oC rfl (f4) (by simp only [go_sem, p3, p4, F]; exact iR) (by simp only [go_sem, p3, p4, F]; exact ⟨rfl, rfl⟩) ?_ | refine oZ (d_end ?_) | refine oZ ?_ | refine oS ?_ | refine gT ?_ | refine gD Tryz.mixed ?_ | refine oB ?_ | refine oK ?_ | (refine oX ?_; simp only [thenA, blockA, ↓reduceIte, Nat.reduceEqDiff, reduceCtorEq]) | refine oY (by simp only [go_sem, p3, p4, F]; exact iR) ?_ | refine oN (by simp only [go_sem, p3, p4, F]; exact iR) ?_)
        (refine awp_ret ?_; show (resRd _ _ _).run _ = some _; simp only [go_sem, p3, p4, F])
      · rw [Bool.true_and]
        have F := And.intro chAV.eq_1 <| And.intro trAV.eq_1 <| And.intro stAV.eq_1 <| And.intro hm <| And.intro hq <| And.intro p1 <| And.intro p2' <| And.intro k0 <| And.intro e1 <| And.intro e2 <| And.intro e3 <| And.intro z1 <| And.intro e4 <| e5
        repeat (first | refine oO rfl (by simp only [go_sem, p3, p4, F]; exact ⟨rfl, rfl⟩) ?_ | refine gR ?_ | refine gO ?_ | refine oC rfl (f1) (by simp only [go_sem, p3, p4, F]; exact iR) (by simp only [go_sem, p3, p4, F]; exact ⟨rfl, rfl⟩) ?_ | refine oC rfl (f2) (by simp only [go_sem, p3, p4, F]; exact iR) (by simp only [go_sem, p3, p4, F]; exact ⟨rfl, rfl⟩) ?_ | refine oC rfl (f3) (by simp only [go_sem, p3, p4, F]; exact iR) (by simp only [go_sem, p3, p4, F]; exact ⟨rfl, rfl⟩) ?_ | refine oC rfl (f4) (by simp only [go_sem, p3, p4, F]; exact iR) (by simp only [go_sem, p3, p4, F]; exact ⟨rfl, rfl⟩) ?_ | refine oZ (d_end ?_) | refine oZ ?_ | refine oS ?_ | refine gT ?_ | refine gD Tryz.mixed ?_ | refine oB ?_ | refine oK ?_ | (refine oX ?_; simp only [thenA, blockA, ↓reduceIte, Nat.reduceEqDiff, reduceCtorEq]) | refine oY (by simp only [go_sem, p3, p4, F]; exact iR) ?_ | refine oN (by simp only [go_sem, p3, p4, F]; exact iR) ?_)
        (refine awp_ret ?_; show (resRd _ _ _).run _ = some _; simp only [go_sem, p3, p4, F])
    · rw [Bool.true_or, Bool.true_and]
      have F := And.intro chAV.eq_1 <| And.intro trAV.eq_1 <| And.intro stAV.eq_1 <| And.intro hm <| And.intro hq <| And.intro p1 <| And.intro p2' <| And.intro k0 <| And.intro e1 <| And.intro e2 <| And.intro e3 <| And.intro z1 <| e4
      repeat (first | refine oO rfl (by simp only [go_sem, p3, p4, F]; exact ⟨rfl, rfl⟩) ?_ | refine gR ?_ | refine gO ?_ | refine oC rfl (f1) (by simp only [go_sem, p3, p4, F]; exact iR) (by simp only [go_sem, p3, p4, F]; exact ⟨rfl, rfl⟩) ?_ | refine oC rfl (f2) (by simp only [go_sem, p3, p4, F]; exact iR) (by simp only [go_sem, p3, p4, F]; exact ⟨rfl, rfl⟩) ?_ | refine oC rfl (f3) (by simp only [go_sem, p3, p4, F]; exact iR) (by simp only [go_sem, p3, p4, F]; exact ⟨rfl, rfl⟩) ?_ | refine oC rfl (f4) (by simp only [go_sem, p3, p4, F]; exact iR) (by simp only [go_sem, p3, p4, F]; exact ⟨rfl, rfl⟩) ?_ | refine oZ (d_end ?_) | refine oZ ?_ | refine oS ?_ | refine gT ?_ | refine gD Tryz.mixed ?_ | refine oB ?_ | refine oK ?_ | (refine oX ?_; simp only [thenA, blockA, ↓reduceIte, Nat.reduceEqDiff, reduceCtorEq]) | refine oY (by simp only [go_sem, p3, p4, F]; exact iR) ?_ | refine oN (by simp only [go_sem, p3, p4, F]; exact iR) ?_)
      (refine awp_ret ?_; show (resRd _ _ _).run _ = some _; simp only [go_sem, p3, p4, F])
  rw [Bool.true_or, Bool.true_and]
  cases e4 : (t.guard == [])
  · rw [Bool.false_or]
    cases e5 : codeB t.guard c.vars.length c.states.length
    · rw [Bool.false_and]
      have F := And.intro chAV.eq_1 <| And.intro trAV.eq_1 <| And.intro stAV.eq_1 <| And.intro hm <| And.intro hq <| And.intro p1 <| And.intro p2' <| And.intro k0 <| And.intro e1 <| And.intro e2 <| And.intro z1 <| And.intro e4 <| e5
      repeat (first | refine oO rfl (by simp only [go_sem, p3, p4, F]; exact ⟨rfl, rfl⟩) ?_ | refine gR ?_ | refine gO ?_ | refine oC rfl (f1) (by simp only [go_sem, p3, p4, F]; exact iR) (by simp only [go_sem, p3, p4, F]; exact ⟨rfl, rfl⟩) ?_ | refine oC rfl (f2) (by simp only [go_sem, p3, p4, F]; exact iR) (by simp only [go_sem, p3, p4, F]; exact ⟨rfl, rfl⟩) ?_ | refine oC rfl (f3) (by simp only [go_sem, p3, p4, F]; exact iR) (by simp only [go_sem, p3, p4, F]; exact ⟨rfl, rfl⟩) ?_ | refine oC rfl (f4) (by simp only [go_sem, p3, p4, F]; exact iR) (by simp only [go_sem, p3, p4, F]; exact ⟨rfl, rfl⟩) ?_ | refine oZ (d_end ?_) | refine oZ ?_ | refine oS ?_ | refine gT ?_ | refine gD Tryz.mixed ?_ | refine oB ?_ | refine oK ?_ | (refine oX ?_; simp only [thenA, blockA, ↓reduceIte, Nat.reduceEqDiff, reduceCtorEq]) | refine oY (by simp only [go_sem, p3, p4, F]; exact iR) ?_ | refine oN (by simp only [go_sem, p3, p4, F]; exact iR) ?_)
      (refine awp_ret ?_; show (resRd _ _ _).run _ = some _; simp only [go_sem, p3, p4, F])
    · rw [Bool.true_and]
      have F := And.intro chAV.eq_1 <| And.intro trAV.eq_1 <| And.intro stAV.eq_1 <| And.intro hm <| And.intro hq <| And.intro p1 <| And.intro p2' <| And.intro k0 <| And.intro e1 <| And.intro e2 <| And.intro z1 <| And.intro e4 <| e5
      repeat (first | refine oO rfl (by simp only [go_sem, p3, p4, F]; exact ⟨rfl, rfl⟩) ?_ | refine gR ?_ | refine gO ?_ | refine oC rfl (f1) (by simp only [go_sem, p3, p4, F]; exact iR) (by simp only [go_sem, p3, p4, F]; exact ⟨rfl, rfl⟩) ?_ | refine oC rfl (f2) (by simp only [go_sem, p3, p4, F]; exact iR) (by simp only [go_sem, p3, p4, F]; exact ⟨rfl, rfl⟩) ?_ | refine oC rfl (f3) (by simp only [go_sem, p3, p4, F]; exact iR) (by simp only [go_sem, p3, p4, F]; exact ⟨rfl, rfl⟩) ?_ | refine oC rfl (f4) (by simp only [go_sem, p3, p4, F]; exact iR) (by simp only [go_sem, p3, p4, F]; exact ⟨rfl, rfl⟩) ?_ | refine oZ (d_end ?_) | refine oZ ?_ | refine oS ?_ | refine gT ?_ | refine gD Tryz.mixed ?_ | refine oB ?_ | refine oK ?_ | (refine oX ?_; simp only [thenA, blockA, ↓reduceIte, Nat.reduceEqDiff, reduceCtorEq]) | refine oY (by simp only [go_sem, p3, p4, F]; exact iR) ?_ | refine oN (by simp only [go_sem, p3, p4, F]; exact iR) ?_)
      (refine awp_ret ?_; show (resRd _ _ _).run _ = some _; simp only [go_sem, p3, p4, F])
  · rw [Bool.true_or, Bool.true_and]
    have F := And.intro chAV.eq_1 <| And.intro trAV.eq_1 <| And.intro stAV.eq_1 <| And.intro hm <| And.intro hq <| And.intro p1 <| And.intro p2' <| And.intro k0 <| And.intro e1 <| And.intro e2 <| And.intro z1 <| e4
    repeat (first | refine oO rfl (by simp only [go_sem, p3, p4, F]; exact ⟨rfl, rfl⟩) ?_ | refine gR ?_ | refine gO ?_ | refine oC rfl (f1) (by simp only [go_sem, p3, p4, F]; exact iR) (by simp only [go_sem, p3, p4, F]; exact ⟨rfl, rfl⟩) ?_ | refine oC rfl (f2) (by simp only [go_sem, p3, p4, F]; exact iR) (by simp only [go_sem, p3, p4, F]; exact ⟨rfl, rfl⟩) ?_ | refine oC rfl (f3) (by simp only [go_sem, p3, p4, F]; exact iR) (by simp only [go_sem, p3, p4, F]; exact ⟨rfl, rfl⟩) ?_ | refine oC rfl (f4) (by simp only [go_sem, p3, p4, F]; exact iR) (by simp only [go_sem, p3, p4, F]; exact ⟨rfl, rfl⟩) ?_ | refine oZ (d_end ?_) | refine oZ ?_ | refine oS ?_ | refine gT ?_ | refine gD Tryz.mixed ?_ | refine oB ?_ | refine oK ?_ | (refine oX ?_; simp only [thenA, blockA, ↓reduceIte, Nat.reduceEqDiff, reduceCtorEq]) | refine oY (by simp only [go_sem, p3, p4, F]; exact iR) ?_ | refine oN (by simp only [go_sem, p3, p4, F]; exact iR) ?_)
    (refine awp_ret ?_; show (resRd _ _ _).run _ = some _; simp only [go_sem, p3, p4, F])
abbrev chkT (c : ChD) : AV := .tuple [I (chk c).1, I (chk c).2]
theorem chkT_is {c : ChD} {x : Int × Int} (h : chk c = x) : chkT c = .tuple [I x.1, I x.2] := by unfold chkT; rw [h]
theorem rCheck_con (env : Env) (c : ChD) : Con Tryz.prog env 36 [.agg (chAV c)] (chkT c) := by
  have fname := w_name_con env c.name
  have z1 := nil_len c.states
  refine con_of_body Tryz.func36 rfl Tryz.call36 (by rw [Tryz.ntmps36]; simp) ?_
  rw [Tryz.ntmps36, Tryz.results36]
  by_cases l1 : 32 < c.states.length
  · have k1 : (32 : Int) < (c.states.length : Int) := by omega
    rw [chkT_is (show chk c = (8, -1) by unfold chk; rw [if_pos (.inl l1)])]
    have F := And.intro chAV.eq_1 <| k1
    repeat refine st ?_
    exact aR
  have k1 : ¬ (32 : Int) < (c.states.length : Int) := by omega
  by_cases l2 : 64 < c.trans.length
  · have k2 : (64 : Int) < (c.trans.length : Int) := by omega
    rw [chkT_is (show chk c = (8, -1) by unfold chk; rw [if_pos (.inr (.inl l2))])]
    have F := And.intro chAV.eq_1 <| And.intro k1 <| k2
    repeat refine st ?_
    exact aR
  have k2 : ¬ (64 : Int) < (c.trans.length : Int) := by omega
  by_cases l3 : 8 < c.vars.length
  · have k3 : (8 : Int) < (c.vars.length : Int) := by omega
    rw [chkT_is (show chk c = (8, -1) by unfold chk; rw [if_pos (.inr (.inr l3))])]
    have F := And.intro chAV.eq_1 <| And.intro k1 <| And.intro k2 <| k3
    repeat refine st ?_
    exact aR
  have k3 : ¬ (8 : Int) < (c.vars.length : Int) := by omega
  have hl : ¬ (32 < c.states.length ∨ 64 < c.trans.length ∨ 8 < c.vars.length) := by omega
  cases e2 : (c.states == [])
  case true =>
    rw [chkT_is (show chk c = (1, -1) by unfold chk; rw [if_neg hl, if_pos (.inl (by simpa using e2))])]
    have F := And.intro chAV.eq_1 <| And.intro k1 <| And.intro k2 <| And.intro k3 <| And.intro z1 <| e2
    repeat (first | refine st ?_ | refine cC fname ?_)
    exact aR
  cases e1 : nameB c.name
  · rw [chkT_is (show chk c = (1, -1) by unfold chk; rw [if_neg hl, if_pos (.inr e1)])]
    have F := And.intro chAV.eq_1 <| And.intro k1 <| And.intro k2 <| And.intro k3 <| And.intro z1 <| And.intro e2 <| e1
    repeat (first | refine st ?_ | refine cC fname ?_)
    exact aR
  have hne : ¬ (c.states = [] ∨ nameB c.name = false) := by
    rw [e1]
    simpa using e2
  have hc1 : chk c = (match firstBad (cVarAt c) c.vars.length with
    | some i => (1, 2000 + (i : Int))
    | none => match firstBad (cStAt c) c.states.length with
      | some i => (1, (i : Int))
      | none => if topB c = false then (1, -1) else match firstBad (cTrAt c) c.trans.length with
        | some i => (1, 1000 + (i : Int))
        | none => (0, -1)) := by
    unfold chk
    rw [if_neg hl, if_neg hne]
    rfl
  have F := And.intro chAV.eq_1 <| And.intro k1 <| And.intro k2 <| And.intro k3 <| And.intro z1 <| And.intro e2 <| e1
  repeat (first | refine st ?_ | refine cC fname ?_)
  refine awp_loopH (D := Nat) (fun i vs => [(1, .loc 1 (vs 1) 0 0), (4, I i)]) (fun _ _ => [(1, ⟨5, [chAV c], 26, false⟩)]) (fun i _ _ => i ≤ c.vars.length ∧ ∀ j, j < i → cVarAt c j = true) (fun i => c.vars.length - i) 0 ?_ ?_ ?_ ?_
  · exact ⟨Nat.zero_le _, fun j hj => by omega⟩
  · (simp only [go_sem, F])
  · have F := chAV.eq_1
    (simp only [go_sem, F])
  rintro i ws esc ⟨hi, hall⟩
  by_cases hlt : i < c.vars.length
  · obtain ⟨v, hv, _⟩ := some_at hlt
    have q1 := nlt hlt
    have q2 := wrap_succ hlt (by omega)
    have hcon := rVar_con env c (by omega) i v hv
    cases e : varB c i v
    · have q3 : IntKind.i64.wrap (2000 + (i : Int)) = 2000 + (i : Int) := wrap_in (by omega) (by omega)
      rw [chkT_is (show chk c = (1, 2000 + (i : Int)) by rw [hc1, firstBad_at hlt hall (by rw [cVarAt_is hv]; exact e)])]
      have F := And.intro chAV.eq_1 <| And.intro q1 <| And.intro q2 <| And.intro q3 <| e
      repeat (first | refine st ?_ | refine cC hcon ?_)
      exact aR
    · have F := And.intro chAV.eq_1 <| And.intro q1 <| And.intro q2 <| e
      repeat (first | refine st ?_ | refine cC hcon ?_)
      refine ⟨i + 1, ⟨hlt, upto_succ hall (by rw [cVarAt_is hv]; exact e)⟩, ?_, ?_, ?_⟩
      · (simp only [go_sem, F])
      · have F := chAV.eq_1
        (simp only [go_sem, F])
      · omega
  have q1 : ¬ (i : Int) < (c.vars.length : Int) := by omega
  have hvn : firstBad (cVarAt c) c.vars.length = none := firstBad_none fun j hj => hall j (by omega)
  rw [hvn] at hc1
  have F := And.intro chAV.eq_1 <| q1
  repeat refine st ?_
  refine awp_loopH (D := Nat) (fun i vs => [(1, .loc 1 (vs 1) 0 0), (5, I i)]) (fun _ _ => [(1, ⟨5, [chAV c], 26, false⟩)]) (fun i _ _ => i ≤ c.states.length ∧ ∀ j, j < i → cStAt c j = true) (fun i => c.states.length - i) 0 ?_ ?_ ?_ ?_
  · exact ⟨Nat.zero_le _, fun j hj => by omega⟩
  · (simp only [go_sem, F])
  · have F := chAV.eq_1
    (simp only [go_sem, F])
  try clear ws esc hi hall q1 hlt i
  rintro i ws esc ⟨hi, hall⟩
  by_cases hlt : i < c.states.length
  · obtain ⟨s, hs, _⟩ := some_at hlt
    have q1 := nlt hlt
    have q2 := wrap_succ hlt (by omega)
    have hcon := rState_con env c (by omega) i s hs
    cases e : stateB c i s
    · rw [chkT_is (show chk c = (1, (i : Int)) by rw [hc1, firstBad_at hlt hall (by rw [cStAt_is hs]; exact e)])]
      have F := And.intro chAV.eq_1 <| And.intro q1 <| And.intro q2 <| e
      repeat (first | refine st ?_ | refine cC hcon ?_)
      exact aR
    · have F := And.intro chAV.eq_1 <| And.intro q1 <| And.intro q2 <| e
      repeat (first | refine st ?_ | refine cC hcon ?_)
      refine ⟨i + 1, ⟨hlt, upto_succ hall (by rw [cStAt_is hs]; exact e)⟩, ?_, ?_, ?_⟩
      · (simp only [go_sem, F])
      · have F := chAV.eq_1
        (simp only [go_sem, F])
      · omega
  have q1 : ¬ (i : Int) < (c.states.length : Int) := by omega
  have hsn : firstBad (cStAt c) c.states.length = none := firstBad_none fun j hj => hall j (by omega)
  rw [hsn] at hc1
  by_cases p1 : c.initial < 0
  · have ht : topB c = false := by unfold topB at_; rw [if_neg (by omega)]
    rw [chkT_is (show chk c = (1, -1) by rw [hc1, if_pos ht])]
    have F := And.intro chAV.eq_1 <| And.intro q1 <| p1
    repeat refine st ?_
    exact aR
  obtain ⟨m, hm⟩ := nat_of (show 0 ≤ c.initial by omega)
  have p1' : ¬ (m : Int) < 0 := by omega
  by_cases p2 : (c.states.length : Int) ≤ (m : Int)
  · have ht : topB c = false := by unfold topB; rw [hm, at_nat, List.getElem?_eq_none (by omega)]
    rw [chkT_is (show chk c = (1, -1) by rw [hc1, if_pos ht])]
    have F := And.intro chAV.eq_1 <| And.intro q1 <| And.intro hm <| And.intro p1' <| p2
    repeat refine st ?_
    exact aR
  have p3 := nlt (show m < c.states.length by omega)
  obtain ⟨q, hq, _⟩ := some_at (show m < c.states.length by omega)
  have fnorm := rNormal_con env q
  have htop : topB c = ((q.parent == -1) && normB q) := by unfold topB; rw [hm, at_nat, hq]
  cases e3 : (q.parent == -1)
  · rw [chkT_is (show chk c = (1, -1) by rw [hc1, if_pos (by rw [htop, e3]; rfl)])]
    have F := And.intro chAV.eq_1 <| And.intro stAV.eq_1 <| And.intro q1 <| And.intro hm <| And.intro p1' <| And.intro p2 <| And.intro hq <| And.intro e3 <| bneA
    repeat (first | refine oO rfl (by simp only [go_sem, p3, F]; exact ⟨rfl, rfl⟩) ?_ | refine gR ?_ | refine gO ?_ | refine oC rfl (fnorm) (by simp only [go_sem, p3, F]; exact iR) (by simp only [go_sem, p3, F]; exact ⟨rfl, rfl⟩) ?_ | refine oZ (d_end ?_) | refine oZ ?_ | refine oS ?_ | refine gT ?_ | refine gD Tryz.mixed ?_ | refine oB ?_ | refine oK ?_ | (refine oX ?_; simp only [thenA, blockA, ↓reduceIte, Nat.reduceEqDiff, reduceCtorEq]) | refine oY (by simp only [go_sem, p3, F]; exact iR) ?_ | refine oN (by simp only [go_sem, p3, F]; exact iR) ?_)
    (refine awp_ret ?_; show (resRd _ _ _).run _ = some _; simp only [go_sem, p3, F])
  cases e4 : normB q
  · rw [chkT_is (show chk c = (1, -1) by rw [hc1, if_pos (by rw [htop, e3, e4]; rfl)])]
    have F := And.intro chAV.eq_1 <| And.intro stAV.eq_1 <| And.intro q1 <| And.intro hm <| And.intro p1' <| And.intro p2 <| And.intro hq <| And.intro e3 <| And.intro e4 <| bneA
    repeat (first | refine oO rfl (by simp only [go_sem, p3, F]; exact ⟨rfl, rfl⟩) ?_ | refine gR ?_ | refine gO ?_ | refine oC rfl (fnorm) (by simp only [go_sem, p3, F]; exact iR) (by simp only [go_sem, p3, F]; exact ⟨rfl, rfl⟩) ?_ | refine oZ (d_end ?_) | refine oZ ?_ | refine oS ?_ | refine gT ?_ | refine gD Tryz.mixed ?_ | refine oB ?_ | refine oK ?_ | (refine oX ?_; simp only [thenA, blockA, ↓reduceIte, Nat.reduceEqDiff, reduceCtorEq]) | refine oY (by simp only [go_sem, p3, F]; exact iR) ?_ | refine oN (by simp only [go_sem, p3, F]; exact iR) ?_)
    (refine awp_ret ?_; show (resRd _ _ _).run _ = some _; simp only [go_sem, p3, F])
  rw [if_neg (by rw [htop, e3, e4]; simp)] at hc1
  have F := And.intro chAV.eq_1 <| And.intro stAV.eq_1 <| And.intro q1 <| And.intro hm <| And.intro p1' <| And.intro p2 <| And.intro hq <| And.intro e3 <| And.intro e4 <| bneA
  repeat (first | refine oO rfl (by simp only [go_sem, p3, F]; exact ⟨rfl, rfl⟩) ?_ | refine gR ?_ | refine gO ?_ | refine oC rfl (fnorm) (by simp only [go_sem, p3, F]; exact iR) (by simp only [go_sem, p3, F]; exact ⟨rfl, rfl⟩) ?_ | refine oZ (d_end ?_) | refine oZ ?_ | refine oS ?_ | refine gT ?_ | refine gD Tryz.mixed ?_ | refine oB ?_ | refine oK ?_ | (refine oX ?_; simp only [thenA, blockA, ↓reduceIte, Nat.reduceEqDiff, reduceCtorEq]) | refine oY (by simp only [go_sem, p3, F]; exact iR) ?_ | refine oN (by simp only [go_sem, p3, F]; exact iR) ?_)
  refine awp_loopH (D := Nat) (fun i vs => [(1, .loc 1 (vs 1) 0 0), (6, I i)]) (fun _ _ => [(1, ⟨5, [chAV c], 26, false⟩)]) (fun i _ _ => i ≤ c.trans.length ∧ ∀ j, j < i → cTrAt c j = true) (fun i => c.trans.length - i) 0 ?_ ?_ ?_ ?_
  · exact ⟨Nat.zero_le _, fun j hj => by omega⟩
  · have F := And.intro chAV.eq_1 <| hm
    (simp only [go_sem, F])
  · have F := And.intro chAV.eq_1 <| hm
    (simp only [go_sem, F])
  try clear ws esc hi hall q1 hlt i
  rintro i ws esc ⟨hi, hall⟩
  by_cases hlt : i < c.trans.length
  · obtain ⟨t, ht, _⟩ := some_at hlt
    have q1 := nlt hlt
    have q2 := wrap_succ hlt (by omega)
    have hcon := rTran_con env c t
    cases e : tranB c t
    · have q3 : IntKind.i64.wrap (1000 + (i : Int)) = 1000 + (i : Int) := wrap_in (by omega) (by omega)
      rw [chkT_is (show chk c = (1, 1000 + (i : Int)) by rw [hc1, firstBad_at hlt hall (by rw [cTrAt_is ht]; exact e)])]
      have F := And.intro chAV.eq_1 <| And.intro trAV.eq_1 <| And.intro q1 <| And.intro q2 <| And.intro q3 <| And.intro ht <| e
      repeat (first | refine st ?_ | refine cC hcon ?_)
      exact aR
    · have F := And.intro chAV.eq_1 <| And.intro trAV.eq_1 <| And.intro q1 <| And.intro q2 <| And.intro ht <| e
      repeat (first | refine st ?_ | refine cC hcon ?_)
      refine ⟨i + 1, ⟨hlt, upto_succ hall (by rw [cTrAt_is ht]; exact e)⟩, ?_, ?_, ?_⟩
      · (simp only [go_sem, F])
      · have F := chAV.eq_1
        (simp only [go_sem, F])
      · omega
  have q1 : ¬ (i : Int) < (c.trans.length : Int) := by omega
  rw [chkT_is (show chk c = (0, -1) by rw [hc1, firstBad_none fun j hj => hall j (by omega)])]
  have F := And.intro chAV.eq_1 <| q1
  repeat refine st ?_
  exact aR
end Go.Proofs.YtlmekdfleciejaaGreatDoor
