/- The contract of chart.Check, by those of its parts: by the walk without memory. -/
import Derived.Test.YtaonccobohiiiaaDoorH6
import Derived.Test.YtaonccobohiiiaaDoorEv
import Derived.Test.YtaonccobohiiiaaDoorSt
set_option linter.unusedSimpArgs false
namespace Go.Proofs.YtaonccobohiiiaaDoor
open Go.RowKit
set_option maxRecDepth 100000
set_option maxHeartbeats 8000000

def chkAV (a1 a8 : Addr) (c : ChD) : AV := if (chk c).1 = 0 then nilE else if (chk c).1 = 8 then errV (chk c).2 (sentV a8) else errV (chk c).2 (sentV a1)
theorem chkAV_nil {a1 a8 : Addr} {c : ChD} {p : Int} (h : chk c = (0, p)) : chkAV a1 a8 c = nilE := by unfold chkAV; rw [h]; rfl
theorem chkAV_long {a1 a8 : Addr} {c : ChD} {p : Int} (h : chk c = (8, p)) : chkAV a1 a8 c = errV p (sentV a8) := by unfold chkAV; rw [h]; rfl
theorem chkAV_form {a1 a8 : Addr} {c : ChD} {p : Int} (h : chk c = (1, p)) : chkAV a1 a8 c = errV p (sentV a1) := by unfold chkAV; rw [h]; rfl
theorem cVarAt_is {c : ChD} {i : Nat} {v : VarD} (h : c.vars[i]? = some v) : cVarAt c i = varB c i v := by unfold cVarAt; rw [h]
theorem cStAt_is {c : ChD} {i : Nat} {s : StD} (h : c.states[i]? = some s) : cStAt c i = stateB c i s := by unfold cStAt; rw [h]
theorem cTrAt_is {c : ChD} {i : Nat} {t : TrD} (h : c.trans[i]? = some t) : cTrAt c i = tranB c t := by unfold cTrAt; rw [h]
theorem upto_succ {p : Nat → Bool} {i : Nat} (h : ∀ j, j < i → p j = true) (hi : p i = true) : ∀ j, j < i + 1 → p j = true := fun j hj => by
  by_cases e : j = i
  · rw [e]; exact hi
  · exact h j (by omega)
theorem nil_iff {α : Type} [DecidableEq α] (l : List α) : (l == []) = true ↔ l = [] := by simp
theorem pCheck_by (env : Env) (a1 a8 : Addr) (he : ChEnv env a1 a8) (c : ChD) (hc : few_ch c)
    (hV : c.vars.length ≤ 8 → ∀ (i : Nat) (v : VarD), c.vars[i]? = some v → Con Tryd.prog env 34 [.agg (chAV c), I i] (B (varB c i v)))
    (hS : c.states.length ≤ 32 → ∀ (i : Nat) (s : StD), c.states[i]? = some s → Con Tryd.prog env 35 [.agg (chAV c), I i] (B (stateB c i s)))
    (hT : ∀ t, t ∈ c.trans → Con Tryd.prog env 38 [.agg (chAV c), .agg (trAV t)] (B (tranB c t))) : Con Tryd.prog env 16 [.agg (chAV c)] (chkAV a1 a8 c) := by
  have g8 := gt_at he.e8
  have fname := tokName_con env c.name (by have := hc.1; unfold maxLen at this; omega)
  have fbad := pBad_con env a1 a8 he (-1) (by omega)
  have fat := pAt_con env c c.initial
  have z1 := nil_len c.states
  refine con_of_body Tryd.func16 rfl Tryd.call16 (by rw [Tryd.ntmps16]; simp) ?_
  rw [Tryd.ntmps16, Tryd.results16]
  by_cases l1 : 32 < c.states.length
  · have k1 : (32 : Int) < (c.states.length : Int) := by omega
    rw [chkAV_long (show chk c = (8, -1) by unfold chk; rw [if_pos (.inl l1)])]
    have F := And.intro chAV.eq_1 <| And.intro k1 <| g8
    repeat (first | refine st ?_ | refine cC (new_con env _ a8) ?_)
    exact aR
  have k1 : ¬ (32 : Int) < (c.states.length : Int) := by omega
  by_cases l2 : 64 < c.trans.length
  · have k2 : (64 : Int) < (c.trans.length : Int) := by omega
    rw [chkAV_long (show chk c = (8, -1) by unfold chk; rw [if_pos (.inr (.inl l2))])]
    have F := And.intro chAV.eq_1 <| And.intro k1 <| And.intro k2 <| g8
    repeat (first | refine st ?_ | refine cC (new_con env _ a8) ?_)
    exact aR
  have k2 : ¬ (64 : Int) < (c.trans.length : Int) := by omega
  by_cases l3 : 8 < c.vars.length
  · have k3 : (8 : Int) < (c.vars.length : Int) := by omega
    rw [chkAV_long (show chk c = (8, -1) by unfold chk; rw [if_pos (.inr (.inr l3))])]
    have F := And.intro chAV.eq_1 <| And.intro k1 <| And.intro k2 <| And.intro k3 <| g8
    repeat (first | refine st ?_ | refine cC (new_con env _ a8) ?_)
    exact aR
  have k3 : ¬ (8 : Int) < (c.vars.length : Int) := by omega
  have hl : ¬ (32 < c.states.length ∨ 64 < c.trans.length ∨ 8 < c.vars.length) := by omega
  cases e1 : nameB c.name
  · rw [chkAV_form (show chk c = (1, -1) by unfold chk; rw [if_neg hl, if_pos (.inr e1)])]
    have F := And.intro chAV.eq_1 <| And.intro k1 <| And.intro k2 <| And.intro k3 <| e1
    repeat (first | refine st ?_ | refine cC fname ?_ | refine cC fbad ?_)
    exact aR
  cases e2 : (c.states == [])
  case true =>
    rw [chkAV_form (show chk c = (1, -1) by unfold chk; rw [if_neg hl, if_pos (.inl (by simpa using e2))])]
    have F := And.intro chAV.eq_1 <| And.intro k1 <| And.intro k2 <| And.intro k3 <| And.intro e1 <| And.intro z1 <| e2
    repeat (first | refine st ?_ | refine cC fname ?_ | refine cC fbad ?_)
    exact aR
  have hne : ¬ (c.states = [] ∨ nameB c.name = false) := by
    rw [e1]
    simpa using e2
  have hc1 : chk c = (match firstBad (cVarAt c) c.vars.length with
    | some i => (1, 2000 + (i : Int))
    | none => match firstBad (cStAt c) c.states.length with
      | some i => (1, (i : Int))
      | none => if topB c = false then (1, -1) else match firstBad (cTrAt c) c.trans.length with
        | some i => (1, 1000 + (i : Int))
        | none => (0, -1)) := by
    unfold chk
    rw [if_neg hl, if_neg hne]
    rfl
  have F := And.intro chAV.eq_1 <| And.intro k1 <| And.intro k2 <| And.intro k3 <| And.intro e1 <| And.intro z1 <| e2
  repeat (first | refine st ?_ | refine cC fname ?_ | refine cC fbad ?_)
  refine awp_loopH (D := Nat) (fun i vs => [(1, .loc 1 (vs 1) 0 0), (38, I c.vars.length), (39, I i)]) (fun _ _ => [(1, ⟨5, [chAV c], 26, false⟩)]) (fun i _ _ => i ≤ c.vars.length ∧ ∀ j, j < i → cVarAt c j = true) (fun i => c.vars.length - i) 0 ?_ ?_ ?_ ?_
  · exact ⟨Nat.zero_le _, fun j hj => by omega⟩
  · (simp only [go_sem, F])
  · (simp only [go_sem, F])
  rintro i ws esc ⟨hi, hall⟩
  by_cases hlt : i < c.vars.length
  · obtain ⟨v, hv, _⟩ := some_at hlt
    have q1 := nlt hlt
    have q2 := wrap_succ hlt (by omega)
    have hcon := hV (by omega) i v hv
    cases e : varB c i v
    · have q3 : IntKind.i64.wrap (2000 + (i : Int)) = 2000 + (i : Int) := wrap_in (by omega) (by omega)
      have hb := pBad_con env a1 a8 he (2000 + (i : Int)) (by omega)
      rw [chkAV_form (show chk c = (1, 2000 + (i : Int)) by rw [hc1, firstBad_at hlt hall (by rw [cVarAt_is hv]; exact e)])]
      have F := And.intro chAV.eq_1 <| And.intro q1 <| And.intro q2 <| And.intro q3 <| e
      repeat (first | refine st ?_ | refine cC hcon ?_ | refine cC hb ?_)
      exact aR
    · have F := And.intro chAV.eq_1 <| And.intro q1 <| And.intro q2 <| e
      repeat (first | refine st ?_ | refine cC hcon ?_)
      refine ⟨i + 1, ⟨hlt, upto_succ hall (by rw [cVarAt_is hv]; exact e)⟩, ?_, ?_, ?_⟩
      · (simp only [go_sem, F])
      · (simp only [go_sem, F])
      · omega
  have q1 : ¬ (i : Int) < (c.vars.length : Int) := by omega
  have hvn : firstBad (cVarAt c) c.vars.length = none := firstBad_none fun j hj => hall j (by omega)
  rw [hvn] at hc1
  have F := And.intro chAV.eq_1 <| q1
  repeat refine st ?_
  refine awp_loopH (D := Nat) (fun i vs => [(1, .loc 1 (vs 1) 0 0), (52, I c.states.length), (53, I i)]) (fun _ _ => [(1, ⟨5, [chAV c], 26, false⟩)]) (fun i _ _ => i ≤ c.states.length ∧ ∀ j, j < i → cStAt c j = true) (fun i => c.states.length - i) 0 ?_ ?_ ?_ ?_
  · exact ⟨Nat.zero_le _, fun j hj => by omega⟩
  · (simp only [go_sem, F])
  · (simp only [go_sem, F])
  try clear ws esc hi hall q1 hlt i
  rintro i ws esc ⟨hi, hall⟩
  by_cases hlt : i < c.states.length
  · obtain ⟨s, hs, _⟩ := some_at hlt
    have q1 := nlt hlt
    have q2 := wrap_succ hlt (by omega)
    have hcon := hS (by omega) i s hs
    cases e : stateB c i s
    · have hb := pBad_con env a1 a8 he (i : Int) (by omega)
      rw [chkAV_form (show chk c = (1, (i : Int)) by rw [hc1, firstBad_at hlt hall (by rw [cStAt_is hs]; exact e)])]
      have F := And.intro chAV.eq_1 <| And.intro q1 <| And.intro q2 <| e
      repeat (first | refine st ?_ | refine cC hcon ?_ | refine cC hb ?_)
      exact aR
    · have F := And.intro chAV.eq_1 <| And.intro q1 <| And.intro q2 <| e
      repeat (first | refine st ?_ | refine cC hcon ?_)
      refine ⟨i + 1, ⟨hlt, upto_succ hall (by rw [cStAt_is hs]; exact e)⟩, ?_, ?_, ?_⟩
      · (simp only [go_sem, F])
      · (simp only [go_sem, F])
      · omega
  have q1 : ¬ (i : Int) < (c.states.length : Int) := by omega
  have hsn : firstBad (cStAt c) c.states.length = none := firstBad_none fun j hj => hall j (by omega)
  rw [hsn] at hc1
  by_cases p1 : 0 ≤ c.initial
  case neg =>
    have ht : topB c = false := by unfold topB at_; rw [if_neg p1]
    rw [chkAV_form (show chk c = (1, -1) by rw [hc1, if_pos ht])]
    have F := And.intro chAV.eq_1 <| And.intro q1 <| p1
    repeat (first | refine st ?_ | refine cC fat ?_ | refine cC fbad ?_)
    exact aR
  obtain ⟨m, hm⟩ := nat_of p1
  by_cases p2 : (m : Int) < (c.states.length : Int)
  case neg =>
    have ht : topB c = false := by unfold topB; rw [hm, at_nat, List.getElem?_eq_none (by omega)]
    have p2' : (c.initial < (c.states.length : Int)) = False := by rw [hm]; simpa using p2
    rw [chkAV_form (show chk c = (1, -1) by rw [hc1, if_pos ht])]
    have F := And.intro chAV.eq_1 <| And.intro q1 <| And.intro p1 <| p2'
    repeat (first | refine st ?_ | refine cC fat ?_ | refine cC fbad ?_)
    exact aR
  obtain ⟨q, hq, _⟩ := some_at (show m < c.states.length by omega)
  have fnorm := pNormal_con env q
  have htop : topB c = ((q.parent == -1) && normB q) := by unfold topB; rw [hm, at_nat, hq]
  rw [hm] at fat
  cases e3 : (q.parent == -1)
  · rw [chkAV_form (show chk c = (1, -1) by rw [hc1, if_pos (by rw [htop, e3]; rfl)])]
    have F := And.intro chAV.eq_1 <| And.intro stAV.eq_1 <| And.intro q1 <| And.intro hm <| And.intro p2 <| And.intro hq <| And.intro e3 <| bneA
    repeat (first | refine st ?_ | refine cC fat ?_ | refine cC fbad ?_ | refine cC fnorm ?_)
    exact aR
  cases e4 : normB q
  · rw [chkAV_form (show chk c = (1, -1) by rw [hc1, if_pos (by rw [htop, e3, e4]; rfl)])]
    have F := And.intro chAV.eq_1 <| And.intro stAV.eq_1 <| And.intro q1 <| And.intro hm <| And.intro p2 <| And.intro hq <| And.intro e3 <| And.intro e4 <| bneA
    repeat (first | refine st ?_ | refine cC fat ?_ | refine cC fbad ?_ | refine cC fnorm ?_)
    exact aR
  rw [if_neg (by rw [htop, e3, e4]; simp)] at hc1
  have F := And.intro chAV.eq_1 <| And.intro stAV.eq_1 <| And.intro q1 <| And.intro hm <| And.intro p2 <| And.intro hq <| And.intro e3 <| And.intro e4 <| bneA
  repeat (first | refine st ?_ | refine cC fat ?_ | refine cC fbad ?_ | refine cC fnorm ?_)
  refine awp_loopH (D := Nat) (fun i vs => [(1, .loc 1 (vs 1) 0 0), (90, trsAV c.trans), (91, I c.trans.length), (92, I i)]) (fun _ _ => [(1, ⟨5, [chAV c], 26, false⟩)]) (fun i _ _ => i ≤ c.trans.length ∧ ∀ j, j < i → cTrAt c j = true) (fun i => c.trans.length - i) 0 ?_ ?_ ?_ ?_
  · exact ⟨Nat.zero_le _, fun j hj => by omega⟩
  · have F := And.intro chAV.eq_1 <| hm
    (simp only [go_sem, F])
  · have F := And.intro chAV.eq_1 <| hm
    (simp only [go_sem, F])
  try clear ws esc hi hall q1 hlt i
  rintro i ws esc ⟨hi, hall⟩
  by_cases hlt : i < c.trans.length
  · obtain ⟨t, ht, htm⟩ := some_at hlt
    have q1 := nlt hlt
    have q2 := wrap_succ hlt (by omega)
    have hcon := hT t htm
    cases e : tranB c t
    · have q3 : IntKind.i64.wrap (1000 + (i : Int)) = 1000 + (i : Int) := wrap_in (by omega) (by omega)
      have hb := pBad_con env a1 a8 he (1000 + (i : Int)) (by omega)
      rw [chkAV_form (show chk c = (1, 1000 + (i : Int)) by rw [hc1, firstBad_at hlt hall (by rw [cTrAt_is ht]; exact e)])]
      have F := And.intro chAV.eq_1 <| And.intro trAV.eq_1 <| And.intro q1 <| And.intro q2 <| And.intro q3 <| And.intro ht <| e
      repeat (first | refine st ?_ | refine cC hcon ?_ | refine cC hb ?_)
      exact aR
    · have F := And.intro chAV.eq_1 <| And.intro trAV.eq_1 <| And.intro q1 <| And.intro q2 <| And.intro ht <| e
      repeat (first | refine st ?_ | refine cC hcon ?_)
      refine ⟨i + 1, ⟨hlt, upto_succ hall (by rw [cTrAt_is ht]; exact e)⟩, ?_, ?_, ?_⟩
      · (simp only [go_sem, F])
      · (simp only [go_sem, F])
      · omega
  have q1 : ¬ (i : Int) < (c.trans.length : Int) := by omega
  rw [chkAV_nil (show chk c = (0, -1) by rw [hc1, firstBad_none fun j hj => hall j (by omega)])]
  have F := And.intro chAV.eq_1 <| q1
  repeat refine st ?_
  exact aR
end Go.Proofs.YtaonccobohiiiaaDoor
