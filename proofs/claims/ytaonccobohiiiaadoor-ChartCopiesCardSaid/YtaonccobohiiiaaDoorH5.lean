/- Contracts of the program's checks of actions and states: by the walk without memory. -/
import Derived.Test.YtaonccobohiiiaaDoorH3
import Derived.Test.YtaonccobohiiiaaDoorEv
import Derived.Test.YtaonccobohiiiaaDoorSt
import Derived.Test.YtaonccobohiiiaaDoorH4
set_option linter.unusedSimpArgs false
namespace Go.Proofs.YtaonccobohiiiaaDoor
open Go.RowKit
set_option maxRecDepth 100000
set_option maxHeartbeats 1000000

theorem pCode_con (env : Env) (a1 a8 : Addr) (he : ChEnv env a1 a8) (c : ChD) (l : List OpD) : Con Tryd.prog env 50 [.agg (chAV c), opsAV l] (B (codeB l c.vars.length c.states.length)) := by
  have hx := pExprCheck_con env a1 a8 he l c.vars.length c.states.length
  unfold exprAV at hx
  refine con_of_body Tryd.func50 rfl Tryd.call50 (by rw [Tryd.ntmps50]; simp) ?_
  rw [Tryd.ntmps50, Tryd.results50]
  by_cases h0 : codeC l c.vars.length c.states.length = 0
  · rw [if_pos h0] at hx
    rw [show codeB l c.vars.length c.states.length = true by simp [codeB, h0]]
    have F := chAV.eq_1
    repeat (first | refine st ?_ | refine cC hx ?_)
    exact aR
  · rw [if_neg h0] at hx
    rw [show codeB l c.vars.length c.states.length = false by simp [codeB, h0]]
    by_cases h8 : codeC l c.vars.length c.states.length = 8
    · rw [if_pos h8] at hx
      have F := chAV.eq_1
      repeat (first | refine st ?_ | refine cC hx ?_)
      exact aR
    · rw [if_neg h8] at hx
      have F := chAV.eq_1
      repeat (first | refine st ?_ | refine cC hx ?_)
      exact aR
theorem ne_beq {a b : Int} (h : a ≠ b) : (a == b) = false := by simpa using h
theorem pAct_con (env : Env) (a1 a8 : Addr) (he : ChEnv env a1 a8) (c : ChD) (a : ActD) (ha : a.name.length ≤ 9223372036854775807) : Con Tryd.prog env 62 [.agg (chAV c), .agg (actAV a)] (B (actB c.vars.length c.states.length a)) := by
  obtain ⟨k, n, m, co⟩ := a
  have hcode := pCode_con env a1 a8 he c co
  have hname := tokName_con env m ha
  refine con_of_body Tryd.func62 rfl Tryd.call62 (by rw [Tryd.ntmps62]; simp) ?_
  rw [Tryd.ntmps62, Tryd.results62]
  by_cases hk1 : k = 1
  · subst hk1
    have hr : actB c.vars.length c.states.length ⟨1, n, m, co⟩ = (decide (0 ≤ n ∧ n < c.vars.length) && (m == []) && codeB co c.vars.length c.states.length) := rfl
    by_cases h1 : 0 ≤ n
    · by_cases h2 : n < (c.vars.length : Int)
      · cases h3 : (m == [])
        · rw [show actB c.vars.length c.states.length ⟨1, n, m, co⟩ = false by rw [hr, h3]; simp]
          have F := And.intro chAV.eq_1 <| And.intro actAV.eq_1 <| And.intro h1 <| And.intro h2 <| h3
          repeat (first | refine st ?_ | refine cC hcode ?_)
          exact aR
        · rw [show actB c.vars.length c.states.length ⟨1, n, m, co⟩ = codeB co c.vars.length c.states.length by rw [hr, h3]; simp [h1, h2]]
          have F := And.intro chAV.eq_1 <| And.intro actAV.eq_1 <| And.intro h1 <| And.intro h2 <| h3
          repeat (first | refine st ?_ | refine cC hcode ?_)
          exact aR
      · rw [show actB c.vars.length c.states.length ⟨1, n, m, co⟩ = false by rw [hr]; simp [h2]]
        have F := And.intro chAV.eq_1 <| And.intro actAV.eq_1 <| And.intro h1 <| h2
        repeat (first | refine st ?_ | refine cC hcode ?_)
        exact aR
    · rw [show actB c.vars.length c.states.length ⟨1, n, m, co⟩ = false by rw [hr]; simp [h1]]
      have F := And.intro chAV.eq_1 <| And.intro actAV.eq_1 <| h1
      repeat (first | refine st ?_ | refine cC hcode ?_)
      exact aR
  by_cases hk24 : k = 2 ∨ k = 4
  · have hr : actB c.vars.length c.states.length ⟨k, n, m, co⟩ = ((n == 0) && nameB m && codeB co c.vars.length c.states.length) := by unfold actB; rw [if_neg hk1, if_pos hk24]
    rw [hr]
    rcases hk24 with rfl | rfl
    · cases h1 : (n == 0)
      · have F := And.intro chAV.eq_1 <| And.intro actAV.eq_1 <| h1
        repeat (first | refine st ?_ | refine cC hcode ?_ | refine cC hname ?_)
        exact aR
      · cases h2 : nameB m
        · have F := And.intro chAV.eq_1 <| And.intro actAV.eq_1 <| And.intro h1 <| h2
          repeat (first | refine st ?_ | refine cC hcode ?_ | refine cC hname ?_)
          exact aR
        · have F := And.intro chAV.eq_1 <| And.intro actAV.eq_1 <| And.intro h1 <| h2
          repeat (first | refine st ?_ | refine cC hcode ?_ | refine cC hname ?_)
          exact aR
    · cases h1 : (n == 0)
      · have F := And.intro chAV.eq_1 <| And.intro actAV.eq_1 <| h1
        repeat (first | refine st ?_ | refine cC hcode ?_ | refine cC hname ?_)
        exact aR
      · cases h2 : nameB m
        · have F := And.intro chAV.eq_1 <| And.intro actAV.eq_1 <| And.intro h1 <| h2
          repeat (first | refine st ?_ | refine cC hcode ?_ | refine cC hname ?_)
          exact aR
        · have F := And.intro chAV.eq_1 <| And.intro actAV.eq_1 <| And.intro h1 <| h2
          repeat (first | refine st ?_ | refine cC hcode ?_ | refine cC hname ?_)
          exact aR
  by_cases hk3 : k = 3
  · subst hk3
    have hr : actB c.vars.length c.states.length ⟨3, n, m, co⟩ = ((n == 0) && (m == []) && codeB co c.vars.length c.states.length) := rfl
    rw [hr]
    cases h1 : (n == 0)
    · have F := And.intro chAV.eq_1 <| And.intro actAV.eq_1 <| h1
      repeat (first | refine st ?_ | refine cC hcode ?_ | refine cC hname ?_)
      exact aR
    · cases h2 : (m == [])
      · have F := And.intro chAV.eq_1 <| And.intro actAV.eq_1 <| And.intro h1 <| h2
        repeat (first | refine st ?_ | refine cC hcode ?_ | refine cC hname ?_)
        exact aR
      · have F := And.intro chAV.eq_1 <| And.intro actAV.eq_1 <| And.intro h1 <| h2
        repeat (first | refine st ?_ | refine cC hcode ?_ | refine cC hname ?_)
        exact aR
  by_cases hk5 : k = 5
  · subst hk5
    have hr : actB c.vars.length c.states.length ⟨5, n, m, co⟩ = ((n == 0) && nameB m && (co == [])) := rfl
    rw [hr]
    have h3 : ((co.length : Int) == 0) = (co == []) := by
      rw [Bool.eq_iff_iff]
      simp
    cases h1 : (n == 0)
    · have F := And.intro chAV.eq_1 <| And.intro actAV.eq_1 <| h1
      repeat (first | refine st ?_ | refine cC hcode ?_ | refine cC hname ?_)
      exact aR
    · cases h2 : nameB m
      · have F := And.intro chAV.eq_1 <| And.intro actAV.eq_1 <| And.intro h1 <| h2
        repeat (first | refine st ?_ | refine cC hcode ?_ | refine cC hname ?_)
        exact aR
      · have F := And.intro chAV.eq_1 <| And.intro actAV.eq_1 <| And.intro h1 <| And.intro h2 <| h3
        repeat (first | refine st ?_ | refine cC hcode ?_ | refine cC hname ?_)
        exact aR
  have hr : actB c.vars.length c.states.length ⟨k, n, m, co⟩ = false := by unfold actB; rw [if_neg hk1, if_neg hk24, if_neg hk3, if_neg hk5]
  have b1 := ne_beq hk1
  have b2 := ne_beq (fun h => hk24 (.inl h))
  have b4 := ne_beq (fun h => hk24 (.inr h))
  have b3 := ne_beq hk3
  have b5 := ne_beq hk5
  rw [hr]
  have F := And.intro chAV.eq_1 <| And.intro actAV.eq_1 <| And.intro b1 <| And.intro b2 <| And.intro b3 <| And.intro b4 <| b5
  repeat refine st ?_
  exact aR
theorem all_take_step {α : Type} {l : List α} {p : α → Bool} {i : Nat} {x : α} (h : (l.take i).all p = true) (hx : l[i]? = some x) (hp : p x = true) : (l.take (i + 1)).all p = true := by
  obtain ⟨h1, h2⟩ := List.getElem?_eq_some_iff.1 hx
  rw [List.take_succ_eq_append_getElem h1, List.all_append, h, h2]
  simp [hp]
theorem all_not {α : Type} {l : List α} {p : α → Bool} {i : Nat} {x : α} (hx : l[i]? = some x) (hp : p x = false) : l.all p = false := by
  rw [Bool.eq_false_iff]
  intro h
  rw [List.all_eq_true] at h
  rw [h _ (List.mem_of_getElem? hx)] at hp
  cases hp
theorem all_end {α : Type} {l : List α} {p : α → Bool} {i : Nat} (h : (l.take i).all p = true) (hi : l.length ≤ i) : l.all p = true := by
  rwa [List.take_of_length_le hi] at h
theorem pActs_con (env : Env) (a1 a8 : Addr) (he : ChEnv env a1 a8) (c : ChD) (l : List ActD) (hl : l.length ≤ 9223372036854775807) (ha : ∀ a ∈ l, a.name.length ≤ 9223372036854775807) : Con Tryd.prog env 49 [.agg (chAV c), actsAV l] (B (actsB c.vars.length c.states.length l)) := by
  refine con_of_body Tryd.func49 rfl Tryd.call49 (by rw [Tryd.ntmps49]; simp) ?_
  rw [Tryd.ntmps49, Tryd.results49]
  have F := chAV.eq_1
  repeat refine st ?_
  refine awp_loopH (D := Nat) (fun k vs => [(1, actsAV l), (2, .loc 2 (vs 2) 0 0), (7, actsAV l), (8, I l.length), (9, I k)]) (fun _ _ => [(2, ⟨5, [chAV c], 26, false⟩)]) (fun k _ _ => k ≤ l.length ∧ (l.take k).all (actB c.vars.length c.states.length) = true) (fun k => l.length - k) 0 ?_ ?_ ?_ ?_
  · exact ⟨Nat.zero_le _, rfl⟩
  · (simp only [go_sem, F])
  · (simp only [go_sem, F])
  rintro k ws esc ⟨hk, hall⟩
  by_cases hlt : k < l.length
  · obtain ⟨a, hx, hm⟩ := some_at hlt
    have k1 := nlt hlt
    have k2 := wrap_succ hlt hl
    have hact := pAct_con env a1 a8 he c a (ha a hm)
    cases h1 : actB c.vars.length c.states.length a with
    | true =>
      have F := And.intro chAV.eq_1 <| And.intro k1 <| And.intro k2 <| And.intro hx <| And.intro actAV.eq_1 <| h1
      repeat (first | refine st ?_ | refine cC hact ?_)
      refine ⟨k + 1, ⟨hlt, all_take_step hall hx h1⟩, ?_, ?_, ?_⟩
      · (simp only [go_sem, F])
      · (simp only [go_sem, F])
      · omega
    | false =>
      rw [show actsB c.vars.length c.states.length l = false by unfold actsB; rw [all_not hx h1]; simp]
      have F := And.intro chAV.eq_1 <| And.intro k1 <| And.intro k2 <| And.intro hx <| And.intro actAV.eq_1 <| h1
      repeat (first | refine st ?_ | refine cC hact ?_)
      exact aR
  · have k1 : ¬ (k : Int) < (l.length : Int) := by omega
    have h3 : decide ((l.length : Int) ≤ 32) = decide (l.length ≤ 32) := by rw [Bool.eq_iff_iff]; simp; omega
    rw [show actsB c.vars.length c.states.length l = decide (l.length ≤ 32) by unfold actsB; rw [all_end hall (by omega)]; simp]
    have F := And.intro chAV.eq_1 <| k1
    repeat refine st ?_
    (refine awp_ret ?_; show (resRd _ _ _).run _ = some _; simp only [go_sem, F])
    exact congrArg B h3
end Go.Proofs.YtaonccobohiiiaaDoor
