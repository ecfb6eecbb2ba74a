/- Contracts of the program's checks of a state, a variable, a transition: by the walk without memory. -/
import Derived.Test.YtaonccobohiiiaaDoorH6
import Derived.Test.YtaonccobohiiiaaDoorEv
import Derived.Test.YtaonccobohiiiaaDoorSt
set_option linter.unusedSimpArgs false
namespace Go.Proofs.YtaonccobohiiiaaDoor
open Go.RowKit
set_option maxRecDepth 100000
set_option maxHeartbeats 8000000

theorem max63 {n : Nat} (h : n ≤ maxLen) : n ≤ 9223372036854775807 := by unfold maxLen at h; omega
theorem acts_few {l : List ActD} (h : l.length ≤ maxLen ∧ ∀ y ∈ l, few_act y) : l.length ≤ 9223372036854775807 ∧ ∀ a ∈ l, a.name.length ≤ 9223372036854775807 := ⟨max63 h.1, fun a ha => max63 (h.2 a ha).1⟩
theorem pState_con (env : Env) (a1 a8 : Addr) (he : ChEnv env a1 a8) (c : ChD) (hn : c.states.length ≤ 1000000) (i : Nat) (s : StD) (hs : c.states[i]? = some s) (hf : few_st s) : Con Tryd.prog env 35 [.agg (chAV c), I i] (B (stateB c i s)) := by
  have hi : i < c.states.length := (List.getElem?_eq_some_iff.1 hs).1
  have k0 := nlt hi
  have f1 := tokName_con env s.name (max63 hf.1)
  have f2 := pFind_con env c s.name hn
  have f3 := pParent_con env c i s hs
  have f5 := pActs_con env a1 a8 he c s.inn (acts_few hf.2.1).1 (acts_few hf.2.1).2
  have f6 := pActs_con env a1 a8 he c s.out (acts_few hf.2.2).1 (acts_few hf.2.2).2
  unfold stateB
  refine con_of_body Tryd.func35 rfl Tryd.call35 (by rw [Tryd.ntmps35]; simp) ?_
  rw [Tryd.ntmps35, Tryd.results35]
  cases e1 : nameB s.name
  · have F := And.intro chAV.eq_1 <| And.intro k0 <| And.intro hs <| And.intro stAV.eq_1 <| e1
    repeat (first | refine st ?_ | refine cC f1 ?_ | refine cC f2 ?_ | refine cC f3 ?_)
    exact aR
  cases e2 : (findI c s.name == (i : Int))
  · have F := And.intro chAV.eq_1 <| And.intro k0 <| And.intro hs <| And.intro stAV.eq_1 <| And.intro e1 <| e2
    repeat (first | refine st ?_ | refine cC f1 ?_ | refine cC f2 ?_ | refine cC f3 ?_)
    exact aR
  cases e3 : parentB c i s
  · have F := And.intro chAV.eq_1 <| And.intro k0 <| And.intro hs <| And.intro stAV.eq_1 <| And.intro e1 <| And.intro e2 <| e3
    repeat (first | refine st ?_ | refine cC f1 ?_ | refine cC f2 ?_ | refine cC f3 ?_)
    exact aR
  have f4 := pShape_con env c i s hs hn (parent_lt hi e3) (max63 hf.2.1.1) (max63 hf.2.2.1)
  cases e4 : shapeB c i s
  · have F := And.intro chAV.eq_1 <| And.intro k0 <| And.intro hs <| And.intro stAV.eq_1 <| And.intro e1 <| And.intro e2 <| And.intro e3 <| e4
    repeat (first | refine st ?_ | refine cC f1 ?_ | refine cC f2 ?_ | refine cC f3 ?_ | refine cC f4 ?_)
    exact aR
  cases e5 : actsB c.vars.length c.states.length s.inn
  · have F := And.intro chAV.eq_1 <| And.intro k0 <| And.intro hs <| And.intro stAV.eq_1 <| And.intro e1 <| And.intro e2 <| And.intro e3 <| And.intro e4 <| e5
    repeat (first | refine st ?_ | refine cC f1 ?_ | refine cC f2 ?_ | refine cC f3 ?_ | refine cC f4 ?_ | refine cC f5 ?_)
    exact aR
  · have F := And.intro chAV.eq_1 <| And.intro k0 <| And.intro hs <| And.intro stAV.eq_1 <| And.intro e1 <| And.intro e2 <| And.intro e3 <| And.intro e4 <| e5
    repeat (first | refine st ?_ | refine cC f1 ?_ | refine cC f2 ?_ | refine cC f3 ?_ | refine cC f4 ?_ | refine cC f5 ?_ | refine cC f6 ?_)
    exact aR
theorem newVar_step {c : ChD} {nm : List UInt8} {j : Nat} {x : VarD} (h : newVar c nm j = true) (hx : c.vars[j]? = some x) (e : (x.name == nm) = false) : newVar c nm (j + 1) = true := by
  unfold newVar at h ⊢
  exact all_take_step h hx (by rw [e]; rfl)
theorem pVar_con (env : Env) (c : ChD) (hn : c.vars.length ≤ 1000000) (i : Nat) (v : VarD) (hv : c.vars[i]? = some v) (hf : few_var v) : Con Tryd.prog env 34 [.agg (chAV c), I i] (B (varB c i v)) := by
  have hi : i < c.vars.length := (List.getElem?_eq_some_iff.1 hv).1
  have k0 := nlt hi
  have k9 : (i : Int) ≤ (c.vars.length : Int) := by omega
  have f1 := tokName_con env v.name (max63 hf)
  have f2 := vFits_con env v.start
  have hlen : (c.vars.take i).length = i := by rw [List.length_take]; omega
  refine con_of_body Tryd.func34 rfl Tryd.call34 (by rw [Tryd.ntmps34]; simp) ?_
  rw [Tryd.ntmps34, Tryd.results34]
  have F := And.intro chAV.eq_1 <| And.intro k0 <| And.intro k9 <| And.intro hv <| And.intro varAV.eq_1 <| hlen
  repeat (first | refine oO rfl (by simp only [go_sem, Nat.sub_zero, F]; exact ⟨rfl, rfl⟩) ?_ | refine gR ?_ | refine gO ?_ | refine oZ (d_end ?_) | refine oZ ?_ | refine oS ?_ | refine gT ?_ | refine gD Tryd.mixed ?_ | refine oB ?_ | refine oK ?_ | (refine oX ?_; simp only [thenA, blockA, ↓reduceIte, Nat.reduceEqDiff, reduceCtorEq]) | refine oY (by simp only [go_sem, Nat.sub_zero, F]; exact iR) ?_ | refine oN (by simp only [go_sem, Nat.sub_zero, F]; exact iR) ?_)
  refine awp_loopH (D := Nat) (fun j vs => [(5, .loc 5 (vs 5) 0 0), (16, varsAV (c.vars.take i)), (17, I i), (18, I j)]) (fun _ _ => [(5, ⟨2, [varAV v], 41, false⟩)]) (fun j _ _ => j ≤ i ∧ newVar c v.name j = true) (fun j => i - j) 0 ?_ ?_ ?_ ?_
  · exact ⟨Nat.zero_le _, rfl⟩
  · (simp only [go_sem, Nat.sub_zero, F])
  · (simp only [go_sem, Nat.sub_zero, F])
  rintro j ws esc ⟨hj, hall⟩
  by_cases hlt : j < i
  · obtain ⟨x, hx, _⟩ := some_at (show j < c.vars.length by omega)
    have hx' : (c.vars.take i)[j]? = some x := by rw [List.getElem?_take, if_pos hlt]; exact hx
    have k1 := nlt hlt
    have k2 := wrap_succ hlt (by omega)
    cases e : (x.name == v.name)
    · have F := And.intro k1 <| And.intro k2 <| And.intro hx' <| And.intro hlen <| And.intro varAV.eq_1 <| e
      repeat refine st ?_
      refine ⟨j + 1, ⟨hlt, newVar_step hall hx e⟩, ?_, ?_, ?_⟩
      · (simp only [go_sem, F])
      · (simp only [go_sem, F])
      · omega
    · rw [show varB c i v = false by unfold varB newVar; rw [all_not (p := fun x : VarD => !(x.name == v.name)) hx' (by rw [e]; rfl)]; rfl]
      have F := And.intro k1 <| And.intro k2 <| And.intro hx' <| And.intro hlen <| And.intro varAV.eq_1 <| e
      repeat refine st ?_
      exact aR
  · have k1 : ¬ (j : Int) < (i : Int) := by omega
    obtain rfl : j = i := by omega
    have hr : varB c j v = (nameB v.name && !(v.name == [100, 97, 116, 97]) && !(v.name == [105, 110]) && fitsB v.start) := by
      unfold varB fitsB
      rw [hall]
      simp only [Bool.true_and, Bool.and_assoc]
    rw [hr]
    cases e1 : nameB v.name
    · have F := And.intro k1 <| And.intro varAV.eq_1 <| e1
      repeat (first | refine st ?_ | refine cC f1 ?_ | refine cC f2 ?_)
      exact aR
    cases e2 : (v.name == [100, 97, 116, 97])
    · cases e3 : (v.name == [105, 110])
      · have F := And.intro k1 <| And.intro varAV.eq_1 <| And.intro e1 <| And.intro e2 <| e3
        repeat (first | refine st ?_ | refine cC f1 ?_ | refine cC f2 ?_)
        exact aR
      · have F := And.intro k1 <| And.intro varAV.eq_1 <| And.intro e1 <| And.intro e2 <| e3
        repeat (first | refine st ?_ | refine cC f1 ?_ | refine cC f2 ?_)
        exact aR
    · have F := And.intro k1 <| And.intro varAV.eq_1 <| And.intro e1 <| e2
      repeat (first | refine st ?_ | refine cC f1 ?_ | refine cC f2 ?_)
      exact aR
end Go.Proofs.YtaonccobohiiiaaDoor
