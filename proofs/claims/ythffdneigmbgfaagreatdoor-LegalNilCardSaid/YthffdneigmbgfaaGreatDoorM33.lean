/- The laws TableBegins, TableClosed. -/
import Derived.Test.YthffdneigmbgfaaGreatDoorM29
import Derived.Test.YthffdneigmbgfaaGreatDoorM7
set_option linter.unusedSimpArgs false
namespace Go.Proofs.YthffdneigmbgfaaGreatDoor
open Go.RowKit
set_option maxRecDepth 100000
set_option maxHeartbeats 8000000
theorem tbeg_len {c : ChD} (h : Full c) (i : Int) : (tbegL c i).length ≤ 32 := by
  unfold tbegL
  generalize (if i = -1 then c.initial else i) = k
  cases inZ c k with
  | true => exact sb_len h _
  | false => exact Nat.zero_le _
theorem mem_len (c : ChD) (i : Int) : (memL c i).length ≤ c.states.length := pfilter_len (memP c i) c.states.length
theorem lawTableBegins_con (env : Env) (a1 a8 : Addr) (he : ChEnv env a1 a8) (hT : ∀ W, env.inv W → TabAt W) (c : ChD) (hcf : few_ch c) (i : Int) : Con Tryz.prog env 6 [.agg (chAV c), I i] (B true) := by
  have fa := awake28_con env a1 a8 he hT
  have fr := rests28_con env c
  cases hg : goodB c with
  | false =>
    rw [hg] at fr
    have fm := made28_none env c hg
    refine con_of_body Tryz.func6 rfl Tryz.call6 (by rw [Tryz.ntmps6]; simp) ?_
    rw [Tryz.ntmps6, Tryz.results6]
    have F := chAV.eq_1
    repeat (first | refine st ?_ | refine cC fm ?_ | refine cC fr ?_ | refine cC fa ?_)
    exact aR
  | true =>
    have h := good_full hg
    have hlen := h.few
    have fm := made28_con env a1 a8 he hT c hcf hg
    have f1 := tabBegin_con env c h i
    have f2 := rBegin_con env c h i
    have f3 := sameInts_con env (tbegL c i) (tbegL c i) (by have := tbeg_len h i; omega)
    rw [decide_eq_true rfl] at f3
    have f4 := tabReal_con env c h i
    have f5 := rKids_con env c i true (by omega)
    have f6 := sameInts_con env (kidsL c i true) (kidsL c i true) (by have := kids_few h.toRight i true; omega)
    rw [decide_eq_true rfl] at f6
    have f7 := tabMem_con env c h i
    have f8 := rMem_con env c (by omega) i
    have f9 := sameInts_con env (memL c i) (memL c i) (by have := mem_len c i; omega)
    rw [decide_eq_true rfl] at f9
    have f10 := rIs_con env c i
    unfold tabAV at fm f1 f4 f7
    by_cases e : i = -1
    · subst e
      rw [if_pos (.inl rfl)] at f4
      refine con_of_body Tryz.func6 rfl Tryz.call6 (by rw [Tryz.ntmps6]; simp) ?_
      rw [Tryz.ntmps6, Tryz.results6]
      have F := chAV.eq_1
      repeat (first | refine st ?_ | refine cC fm ?_ | refine cC fr ?_ | refine cC fa ?_ | refine cC f1 ?_ | refine cC f2 ?_ | refine cC f3 ?_ | refine cC f4 ?_ | refine cC f5 ?_ | refine cC f6 ?_ | refine cC f7 ?_ | refine cC f8 ?_ | refine cC f9 ?_)
      exact aR
    · have e1 : (i == -1) = false := by simpa using e
      have e2 : (i != -1) = true := by simpa using e
      cases hz : inZ c i with
      | true =>
        rw [hz] at f10
        rw [hz, if_pos (.inr rfl)] at f4
        refine con_of_body Tryz.func6 rfl Tryz.call6 (by rw [Tryz.ntmps6]; simp) ?_
        rw [Tryz.ntmps6, Tryz.results6]
        have F := And.intro chAV.eq_1 <| And.intro e1 <| e2
        repeat (first | refine st ?_ | refine cC fm ?_ | refine cC fr ?_ | refine cC fa ?_ | refine cC f1 ?_ | refine cC f2 ?_ | refine cC f3 ?_ | refine cC f4 ?_ | refine cC f5 ?_ | refine cC f6 ?_ | refine cC f7 ?_ | refine cC f8 ?_ | refine cC f9 ?_ | refine cC f10 ?_)
        exact aR
      | false =>
        rw [hz] at f10
        rw [hz, if_neg (by simp [e])] at f4
        have f11 : Con Tryz.prog env 17 [.seq 1 [], nilS] (B true) := (sameInts_con env [] [] (by simp)).args (Strs.cons (Str.refl _) (Strs.cons (Str.nil 1) Strs.nil))
        refine con_of_body Tryz.func6 rfl Tryz.call6 (by rw [Tryz.ntmps6]; simp) ?_
        rw [Tryz.ntmps6, Tryz.results6]
        have F := And.intro chAV.eq_1 <| And.intro e1 <| e2
        repeat (first | refine st ?_ | refine cC fm ?_ | refine cC fr ?_ | refine cC fa ?_ | refine cC f1 ?_ | refine cC f2 ?_ | refine cC f3 ?_ | refine cC f4 ?_ | refine cC f5 ?_ | refine cC f11 ?_ | refine cC f7 ?_ | refine cC f8 ?_ | refine cC f9 ?_ | refine cC f10 ?_)
        exact aR
end Go.Proofs.YthffdneigmbgfaaGreatDoor
