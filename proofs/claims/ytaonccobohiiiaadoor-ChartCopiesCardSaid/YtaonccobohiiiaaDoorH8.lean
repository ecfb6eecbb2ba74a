/- The contract of the program's check of a transition: by the walk without memory. -/
import Derived.Test.YtaonccobohiiiaaDoorH7
import Derived.Test.YtaonccobohiiiaaDoorEv
import Derived.Test.YtaonccobohiiiaaDoorSt
set_option linter.unusedSimpArgs false
namespace Go.Proofs.YtaonccobohiiiaaDoor
open Go.RowKit
set_option maxRecDepth 100000
set_option maxHeartbeats 8000000

theorem pTran_con (env : Env) (a1 a8 : Addr) (he : ChEnv env a1 a8) (c : ChD) (t : TrD) (hf : few_tr t) : Con Tryd.prog env 38 [.agg (chAV c), .agg (trAV t)] (B (tranB c t)) := by
  have f1 := pAt_con env c t.src
  have f3 := tokName_con env t.event (max63 hf.1)
  have f4 := pCode_con env a1 a8 he c t.guard
  have f5 := pActs_con env a1 a8 he c t.acts (acts_few hf.2.2).1 (acts_few hf.2.2).2
  have f6 := pAt_con env c t.target
  have z1 := nil_len t.guard
  by_cases h1 : 0 ≤ t.src
  case neg =>
    rw [show tranB c t = false by unfold tranB normAt at_; rw [if_neg h1]; rfl]
    refine con_of_body Tryd.func38 rfl Tryd.call38 (by rw [Tryd.ntmps38]; simp) ?_
    rw [Tryd.ntmps38, Tryd.results38]
    have F := And.intro chAV.eq_1 <| And.intro trAV.eq_1 <| h1
    repeat (first | refine st ?_ | refine cC f1 ?_)
    exact aR
  obtain ⟨m, hm⟩ := nat_of h1
  by_cases h2 : (m : Int) < (c.states.length : Int)
  case neg =>
    rw [show tranB c t = false by unfold tranB normAt; rw [hm, at_nat, List.getElem?_eq_none (by omega)]; rfl]
    have hm' : (t.src < (c.states.length : Int)) = False := by rw [hm]; simpa using h2
    refine con_of_body Tryd.func38 rfl Tryd.call38 (by rw [Tryd.ntmps38]; simp) ?_
    rw [Tryd.ntmps38, Tryd.results38]
    have F := And.intro chAV.eq_1 <| And.intro trAV.eq_1 <| And.intro h1 <| hm'
    repeat (first | refine st ?_ | refine cC f1 ?_)
    exact aR
  obtain ⟨q, hq, _⟩ := some_at (show m < c.states.length by omega)
  have f2 := pNormal_con env q
  have hr : tranB c t = (normB q && ((t.event == []) || nameB t.event) && ((t.guard == []) || codeB t.guard c.vars.length c.states.length) && actsB c.vars.length c.states.length t.acts && ((t.target == -1) || (decide (0 ≤ t.target) && decide (t.target < c.states.length)))) := by unfold tranB; rw [hm, normAt_nat hq]
  rw [hr]
  rw [hm] at f1
  cases e1 : normB q
  · rw [Bool.false_and, Bool.false_and, Bool.false_and, Bool.false_and]
    refine con_of_body Tryd.func38 rfl Tryd.call38 (by rw [Tryd.ntmps38]; simp) ?_
    rw [Tryd.ntmps38, Tryd.results38]
    have F := And.intro chAV.eq_1 <| And.intro trAV.eq_1 <| And.intro stAV.eq_1 <| And.intro hm <| And.intro h2 <| And.intro hq <| e1
    repeat (first | refine st ?_ | refine cC f1 ?_ | refine cC f2 ?_)
    exact aR
  have body : ((t.event == []) || nameB t.event) = true → Con Tryd.prog env 38 [.agg (chAV c), .agg (trAV t)] (B (((t.guard == []) || codeB t.guard c.vars.length c.states.length) && actsB c.vars.length c.states.length t.acts && ((t.target == -1) || (decide (0 ≤ t.target) && decide (t.target < c.states.length))))) := fun hev => by
    have go : ∀ {b1 b2 : Bool}, (t.event == []) = b1 → (b1 = false → nameB t.event = b2) → (b1 || b2) = true → Con Tryd.prog env 38 [.agg (chAV c), .agg (trAV t)] (B (((t.guard == []) || codeB t.guard c.vars.length c.states.length) && actsB c.vars.length c.states.length t.acts && ((t.target == -1) || (decide (0 ≤ t.target) && decide (t.target < c.states.length))))) := fun {b1 b2} g1 g2 g3 => by
      refine con_of_body Tryd.func38 rfl Tryd.call38 (by rw [Tryd.ntmps38]; simp) ?_
      rw [Tryd.ntmps38, Tryd.results38]
      cases b1 with
      | true =>
        cases e4 : (t.guard == []) with
        | true =>
          cases e6 : actsB c.vars.length c.states.length t.acts with
          | false =>
            have F := And.intro chAV.eq_1 <| And.intro trAV.eq_1 <| And.intro stAV.eq_1 <| And.intro hm <| And.intro h2 <| And.intro hq <| And.intro e1 <| And.intro g1 <| And.intro z1 <| And.intro e4 <| e6
            repeat (first | refine st ?_ | refine cC f1 ?_ | refine cC f2 ?_ | refine cC f3 ?_ | refine cC f4 ?_ | refine cC f5 ?_ | refine cC f6 ?_)
            exact aR
          | true =>
            cases e7 : (t.target == -1) with
            | false =>
              have F := And.intro chAV.eq_1 <| And.intro trAV.eq_1 <| And.intro stAV.eq_1 <| And.intro hm <| And.intro h2 <| And.intro hq <| And.intro e1 <| And.intro g1 <| And.intro z1 <| And.intro e4 <| And.intro e6 <| e7
              repeat (first | refine st ?_ | refine cC f1 ?_ | refine cC f2 ?_ | refine cC f3 ?_ | refine cC f4 ?_ | refine cC f5 ?_ | refine cC f6 ?_)
              exact aR
            | true =>
              have F := And.intro chAV.eq_1 <| And.intro trAV.eq_1 <| And.intro stAV.eq_1 <| And.intro hm <| And.intro h2 <| And.intro hq <| And.intro e1 <| And.intro g1 <| And.intro z1 <| And.intro e4 <| And.intro e6 <| e7
              repeat (first | refine st ?_ | refine cC f1 ?_ | refine cC f2 ?_ | refine cC f3 ?_ | refine cC f4 ?_ | refine cC f5 ?_ | refine cC f6 ?_)
              exact aR
        | false =>
          cases e5 : codeB t.guard c.vars.length c.states.length with
          | false =>
            have F := And.intro chAV.eq_1 <| And.intro trAV.eq_1 <| And.intro stAV.eq_1 <| And.intro hm <| And.intro h2 <| And.intro hq <| And.intro e1 <| And.intro g1 <| And.intro z1 <| And.intro e4 <| e5
            repeat (first | refine st ?_ | refine cC f1 ?_ | refine cC f2 ?_ | refine cC f3 ?_ | refine cC f4 ?_ | refine cC f5 ?_ | refine cC f6 ?_)
            exact aR
          | true =>
            cases e6 : actsB c.vars.length c.states.length t.acts with
            | false =>
              have F := And.intro chAV.eq_1 <| And.intro trAV.eq_1 <| And.intro stAV.eq_1 <| And.intro hm <| And.intro h2 <| And.intro hq <| And.intro e1 <| And.intro g1 <| And.intro z1 <| And.intro e4 <| And.intro e5 <| e6
              repeat (first | refine st ?_ | refine cC f1 ?_ | refine cC f2 ?_ | refine cC f3 ?_ | refine cC f4 ?_ | refine cC f5 ?_ | refine cC f6 ?_)
              exact aR
            | true =>
              cases e7 : (t.target == -1) with
              | false =>
                have F := And.intro chAV.eq_1 <| And.intro trAV.eq_1 <| And.intro stAV.eq_1 <| And.intro hm <| And.intro h2 <| And.intro hq <| And.intro e1 <| And.intro g1 <| And.intro z1 <| And.intro e4 <| And.intro e5 <| And.intro e6 <| e7
                repeat (first | refine st ?_ | refine cC f1 ?_ | refine cC f2 ?_ | refine cC f3 ?_ | refine cC f4 ?_ | refine cC f5 ?_ | refine cC f6 ?_)
                exact aR
              | true =>
                have F := And.intro chAV.eq_1 <| And.intro trAV.eq_1 <| And.intro stAV.eq_1 <| And.intro hm <| And.intro h2 <| And.intro hq <| And.intro e1 <| And.intro g1 <| And.intro z1 <| And.intro e4 <| And.intro e5 <| And.intro e6 <| e7
                repeat (first | refine st ?_ | refine cC f1 ?_ | refine cC f2 ?_ | refine cC f3 ?_ | refine cC f4 ?_ | refine cC f5 ?_ | refine cC f6 ?_)
                exact aR
      | false =>
        have g2 := g2 rfl
        obtain rfl : b2 = true := by simpa using g3
        cases e4 : (t.guard == []) with
        | true =>
          cases e6 : actsB c.vars.length c.states.length t.acts with
          | false =>
            have F := And.intro chAV.eq_1 <| And.intro trAV.eq_1 <| And.intro stAV.eq_1 <| And.intro hm <| And.intro h2 <| And.intro hq <| And.intro e1 <| And.intro g1 <| And.intro g2 <| And.intro z1 <| And.intro e4 <| e6
            repeat (first | refine st ?_ | refine cC f1 ?_ | refine cC f2 ?_ | refine cC f3 ?_ | refine cC f4 ?_ | refine cC f5 ?_ | refine cC f6 ?_)
            exact aR
          | true =>
            cases e7 : (t.target == -1) with
            | false =>
              have F := And.intro chAV.eq_1 <| And.intro trAV.eq_1 <| And.intro stAV.eq_1 <| And.intro hm <| And.intro h2 <| And.intro hq <| And.intro e1 <| And.intro g1 <| And.intro g2 <| And.intro z1 <| And.intro e4 <| And.intro e6 <| e7
              repeat (first | refine st ?_ | refine cC f1 ?_ | refine cC f2 ?_ | refine cC f3 ?_ | refine cC f4 ?_ | refine cC f5 ?_ | refine cC f6 ?_)
              exact aR
            | true =>
              have F := And.intro chAV.eq_1 <| And.intro trAV.eq_1 <| And.intro stAV.eq_1 <| And.intro hm <| And.intro h2 <| And.intro hq <| And.intro e1 <| And.intro g1 <| And.intro g2 <| And.intro z1 <| And.intro e4 <| And.intro e6 <| e7
              repeat (first | refine st ?_ | refine cC f1 ?_ | refine cC f2 ?_ | refine cC f3 ?_ | refine cC f4 ?_ | refine cC f5 ?_ | refine cC f6 ?_)
              exact aR
        | false =>
          cases e5 : codeB t.guard c.vars.length c.states.length with
          | false =>
            have F := And.intro chAV.eq_1 <| And.intro trAV.eq_1 <| And.intro stAV.eq_1 <| And.intro hm <| And.intro h2 <| And.intro hq <| And.intro e1 <| And.intro g1 <| And.intro g2 <| And.intro z1 <| And.intro e4 <| e5
            repeat (first | refine st ?_ | refine cC f1 ?_ | refine cC f2 ?_ | refine cC f3 ?_ | refine cC f4 ?_ | refine cC f5 ?_ | refine cC f6 ?_)
            exact aR
          | true =>
            cases e6 : actsB c.vars.length c.states.length t.acts with
            | false =>
              have F := And.intro chAV.eq_1 <| And.intro trAV.eq_1 <| And.intro stAV.eq_1 <| And.intro hm <| And.intro h2 <| And.intro hq <| And.intro e1 <| And.intro g1 <| And.intro g2 <| And.intro z1 <| And.intro e4 <| And.intro e5 <| e6
              repeat (first | refine st ?_ | refine cC f1 ?_ | refine cC f2 ?_ | refine cC f3 ?_ | refine cC f4 ?_ | refine cC f5 ?_ | refine cC f6 ?_)
              exact aR
            | true =>
              cases e7 : (t.target == -1) with
              | false =>
                have F := And.intro chAV.eq_1 <| And.intro trAV.eq_1 <| And.intro stAV.eq_1 <| And.intro hm <| And.intro h2 <| And.intro hq <| And.intro e1 <| And.intro g1 <| And.intro g2 <| And.intro z1 <| And.intro e4 <| And.intro e5 <| And.intro e6 <| e7
                repeat (first | refine st ?_ | refine cC f1 ?_ | refine cC f2 ?_ | refine cC f3 ?_ | refine cC f4 ?_ | refine cC f5 ?_ | refine cC f6 ?_)
                exact aR
              | true =>
                have F := And.intro chAV.eq_1 <| And.intro trAV.eq_1 <| And.intro stAV.eq_1 <| And.intro hm <| And.intro h2 <| And.intro hq <| And.intro e1 <| And.intro g1 <| And.intro g2 <| And.intro z1 <| And.intro e4 <| And.intro e5 <| And.intro e6 <| e7
                repeat (first | refine st ?_ | refine cC f1 ?_ | refine cC f2 ?_ | refine cC f3 ?_ | refine cC f4 ?_ | refine cC f5 ?_ | refine cC f6 ?_)
                exact aR
    exact go (b1 := (t.event == [])) (b2 := nameB t.event) rfl (fun _ => rfl) hev
  cases e2 : (t.event == [])
  · cases e3 : nameB t.event
    · rw [Bool.or_false, Bool.and_false, Bool.false_and, Bool.false_and, Bool.false_and]
      refine con_of_body Tryd.func38 rfl Tryd.call38 (by rw [Tryd.ntmps38]; simp) ?_
      rw [Tryd.ntmps38, Tryd.results38]
      have F := And.intro chAV.eq_1 <| And.intro trAV.eq_1 <| And.intro stAV.eq_1 <| And.intro hm <| And.intro h2 <| And.intro hq <| And.intro e1 <| And.intro e2 <| e3
      repeat (first | refine st ?_ | refine cC f1 ?_ | refine cC f2 ?_ | refine cC f3 ?_)
      exact aR
    · simp only [Bool.or_true, Bool.true_and]
      exact body (by rw [e2, e3]; rfl)
  · simp only [Bool.true_or, Bool.true_and]
    exact body (by rw [e2]; rfl)
end Go.Proofs.YtaonccobohiiiaaDoor
