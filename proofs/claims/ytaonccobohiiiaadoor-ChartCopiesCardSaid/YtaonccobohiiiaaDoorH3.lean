/- Contracts of expressions' checks, of numbers among numbers: by the walk without memory. -/
import Derived.Test.YtaonccobohiiiaaDoorH2
import Derived.Test.YtaonccobohiiiaaDoorEv
import Derived.Test.YtaonccobohiiiaaDoorSt
import Derived.Test.YtaonccobohiiiaaDoorHS
set_option linter.unusedSimpArgs false
namespace Go.Proofs.YtaonccobohiiiaaDoor
open Go.RowKit
set_option maxRecDepth 100000
set_option maxHeartbeats 1000000

/-- What variables hold: the kinds of errors that charts know. -/
structure ChEnv (env : Env) (a1 a8 : Addr) : Prop where
  e1 : env 1 = some (sentV a1)
  e8 : env 0 = some (sentV a8)
def exprAV (a1 a8 : Addr) (l : List OpD) (vs ss : Int) : AV := if codeC l vs ss = 0 then nilE else if codeC l vs ss = 8 then errV (-1) (sentV a8) else errV (-1) (sentV a1)
theorem codeC_long {l : List OpD} (vs ss : Int) (h : 32 < l.length) : codeC l vs ss = 8 := by unfold codeC; rw [if_pos h]
theorem codeC_yes {l : List OpD} {vs ss : Int} (h : ¬ 32 < l.length) (hh : hgt vs ss l 0 = some 1) : codeC l vs ss = 0 := by unfold codeC; rw [if_neg h, if_pos hh]
theorem codeC_no {l : List OpD} {vs ss : Int} (h : ¬ 32 < l.length) (hh : hgt vs ss l 0 ≠ some 1) : codeC l vs ss = 1 := by unfold codeC; rw [if_neg h, if_neg hh]
theorem stepOk_is {vs ss n : Int} {o : OpD} (h : stepOk vs ss n o = true) : ¬ operandsI o.kind < 0 ∧ ¬ n < operandsI o.kind ∧ numB o vs ss = true := by
  simp only [stepOk, Bool.and_eq_true, decide_eq_true_eq] at h
  exact ⟨by omega, by omega, h.2⟩
theorem stepOk_not {vs ss n : Int} {o : OpD} (h : stepOk vs ss n o = false) : operandsI o.kind < 0 ∨ (¬ operandsI o.kind < 0 ∧ n < operandsI o.kind) ∨ (¬ operandsI o.kind < 0 ∧ ¬ n < operandsI o.kind ∧ numB o vs ss = false) := by
  by_cases a : operandsI o.kind < 0
  · exact .inl a
  by_cases b : n < operandsI o.kind
  · exact .inr (.inl ⟨a, b⟩)
  refine .inr (.inr ⟨a, b, ?_⟩)
  have e1 : 0 ≤ operandsI o.kind := by omega
  have e2 : operandsI o.kind ≤ n := by omega
  simpa [stepOk, e1, e2] using h
theorem pExprCheck_con (env : Env) (a1 a8 : Addr) (he : ChEnv env a1 a8) (l : List OpD) (vs ss : Int) : Con Tryd.prog env 63 [opsAV l, I vs, I ss] (exprAV a1 a8 l vs ss) := by
  have g1 := gt_at he.e1
  have g8 := gt_at he.e8
  refine con_of_body Tryd.func63 rfl Tryd.call63 (by rw [Tryd.ntmps63]; simp) ?_
  rw [Tryd.ntmps63, Tryd.results63]
  by_cases hl : 32 < l.length
  · have hL : (32 : Int) < l.length := by omega
    rw [show exprAV a1 a8 l vs ss = errV (-1) (sentV a8) by unfold exprAV; rw [codeC_long vs ss hl]; rfl]
    have F := And.intro hL <| g8
    repeat (first | refine st ?_ | refine cC (new_con env _ a8) ?_)
    exact aR
  have hL : ¬ (32 : Int) < l.length := by omega
  have F := hL
  repeat refine st ?_
  refine awp_loopH (D := Nat × Int) (fun d _ => [(1, I vs), (2, I ss), (7, I d.2), (16, opsAV l), (17, I l.length), (18, I d.1)]) (fun _ _ => []) (fun d _ _ => d.1 ≤ l.length ∧ hgt vs ss l 0 = hgt vs ss (l.drop d.1) d.2 ∧ 0 ≤ d.2 ∧ d.2 ≤ d.1) (fun d => l.length - d.1) (0, 0) ?_ ?_ ?_ ?_
  · exact ⟨Nat.zero_le _, rfl, Int.le_refl _, Int.le_refl _⟩
  · (simp only [go_sem, F])
  · (simp only [go_sem, F])
  rintro ⟨i, n⟩ ws esc ⟨hi, hh, h0, hn⟩
  simp only at hi hh h0 hn
  by_cases hlt : i < l.length
  · obtain ⟨o, ho, _⟩ := some_at hlt
    obtain ⟨up, no⟩ := hgt_step ho hh
    have k1 := nlt hlt
    have k2 := wrap_succ hlt (by omega)
    have hop := operandsI_in o.kind
    cases hok : stepOk vs ss n o with
    | true =>
      obtain ⟨b1, b2, b3⟩ := stepOk_is hok
      have w1 : IntKind.i64.wrap (1 - operandsI o.kind) = 1 - operandsI o.kind := wrap_in (by omega) (by omega)
      have w2 : IntKind.i64.wrap (n + (1 - operandsI o.kind)) = n + (1 - operandsI o.kind) := wrap_in (by omega) (by omega)
      have F := And.intro k1 <| And.intro k2 <| And.intro ho <| And.intro opAV.eq_1 <| And.intro b1 <| And.intro b2 <| And.intro b3 <| And.intro w1 <| w2
      repeat (first | refine st ?_ | refine cC (pOperands_con env o.kind) ?_ | refine cC (pNumber_con env o vs ss) ?_)
      refine ⟨(i + 1, n + (1 - operandsI o.kind)), ⟨by simp only; omega, ?_, by simp only; omega, by simp only; omega⟩, ?_, ?_, ?_⟩
      · simp only
        rw [up hok]
        congr 1
        omega
      · (simp only [go_sem, F])
      · (simp only [go_sem, F])
      · simp only; omega
    | false =>
      rw [show exprAV a1 a8 l vs ss = errV (-1) (sentV a1) by unfold exprAV; rw [codeC_no hl (by rw [no hok]; simp)]; rfl]
      rcases stepOk_not hok with b1 | ⟨b1, b2⟩ | ⟨b1, b2, b3⟩
      · have F := And.intro k1 <| And.intro k2 <| And.intro ho <| And.intro opAV.eq_1 <| And.intro b1 <| g1
        repeat (first | refine st ?_ | refine cC (pOperands_con env o.kind) ?_ | refine cC (pNumber_con env o vs ss) ?_ | refine cC (new_con env _ a1) ?_)
        exact aR
      · have F := And.intro k1 <| And.intro k2 <| And.intro ho <| And.intro opAV.eq_1 <| And.intro b1 <| And.intro b2 <| g1
        repeat (first | refine st ?_ | refine cC (pOperands_con env o.kind) ?_ | refine cC (pNumber_con env o vs ss) ?_ | refine cC (new_con env _ a1) ?_)
        exact aR
      · have F := And.intro k1 <| And.intro k2 <| And.intro ho <| And.intro opAV.eq_1 <| And.intro b1 <| And.intro b2 <| And.intro b3 <| g1
        repeat (first | refine st ?_ | refine cC (pOperands_con env o.kind) ?_ | refine cC (pNumber_con env o vs ss) ?_ | refine cC (new_con env _ a1) ?_)
        exact aR
  · have k1 : ¬ (i : Int) < (l.length : Int) := by omega
    have hend := hgt_end (by omega) hh
    by_cases h1 : n = 1
    · subst h1
      rw [show exprAV a1 a8 l vs ss = nilE by unfold exprAV; rw [codeC_yes hl hend]; rfl]
      have F := And.intro k1 <| g1
      repeat (first | refine st ?_ | refine cC (new_con env _ a1) ?_)
      exact aR
    · rw [show exprAV a1 a8 l vs ss = errV (-1) (sentV a1) by unfold exprAV; rw [codeC_no hl (by rw [hend]; simpa using h1)]; rfl]
      have k2 : (n != 1) = true := by simpa using h1
      have F := And.intro k1 <| And.intro k2 <| g1
      repeat (first | refine st ?_ | refine cC (new_con env _ a1) ?_)
      exact aR
end Go.Proofs.YtaonccobohiiiaaDoor
