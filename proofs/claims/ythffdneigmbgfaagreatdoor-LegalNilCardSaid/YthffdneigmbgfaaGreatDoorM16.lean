/- Contracts of kids, of numbers among numbers, of the state of a name: by the walk without memory. -/
import Derived.Test.YthffdneigmbgfaaGreatDoorM15
import Derived.Test.YthffdneigmbgfaaGreatDoorM5
import Derived.Test.YthffdneigmbgfaaGreatDoorM7
import Derived.Test.YthffdneigmbgfaaGreatDoorM10
set_option linter.unusedSimpArgs false
namespace Go.Proofs.YthffdneigmbgfaaGreatDoor
open Go.RowKit
set_option maxRecDepth 100000
set_option maxHeartbeats 1000000
structure ChEnv (env : Env) (a1 a8 : Addr) : Prop where
  e1 : env 2 = some (sentV a1)
  e8 : env 7 = some (sentV a8)
def exprAV (a1 a8 : Addr) (l : List OpD) (vs ss : Int) : AV := if codeC l vs ss = 0 then nilE else if codeC l vs ss = 8 then errV (-1) (sentV a8) else errV (-1) (sentV a1)
theorem codeC_long {l : List OpD} (vs ss : Int) (h : 32 < l.length) : codeC l vs ss = 8 := by unfold codeC; rw [if_pos h]
theorem codeC_yes {l : List OpD} {vs ss : Int} (h : ¬ 32 < l.length) (hh : hgt vs ss l 0 = some 1) : codeC l vs ss = 0 := by unfold codeC; rw [if_neg h, if_pos hh]
theorem codeC_no {l : List OpD} {vs ss : Int} (h : ¬ 32 < l.length) (hh : hgt vs ss l 0 ≠ some 1) : codeC l vs ss = 1 := by unfold codeC; rw [if_neg h, if_neg hh]
theorem stepOk_is {vs ss n : Int} {o : OpD} (h : stepOk vs ss n o = true) : ¬ operandsI o.kind < 0 ∧ ¬ n < operandsI o.kind ∧ numB o vs ss = true := by
  simp only [stepOk, Bool.and_eq_true, decide_eq_true_eq] at h
  exact ⟨by omega, by omega, h.2⟩
theorem stepOk_not {vs ss n : Int} {o : OpD} (h : stepOk vs ss n o = false) : operandsI o.kind < 0 ∨ (¬ operandsI o.kind < 0 ∧ n < operandsI o.kind) ∨ (¬ operandsI o.kind < 0 ∧ ¬ n < operandsI o.kind ∧ numB o vs ss = false) := by
  by_cases a : operandsI o.kind < 0
  · exact .inl a
  by_cases b : n < operandsI o.kind
  · exact .inr (.inl ⟨a, b⟩)
  refine .inr (.inr ⟨a, b, ?_⟩)
  have e1 : 0 ≤ operandsI o.kind := by omega
  have e2 : operandsI o.kind ≤ n := by omega
  simpa [stepOk, e1, e2] using h
theorem pExprCheck_con (env : Env) (a1 a8 : Addr) (he : ChEnv env a1 a8) (l : List OpD) (vs ss : Int) : Con Tryz.prog env 206 [opsAV l, I vs, I ss] (exprAV a1 a8 l vs ss) := by
  have g1 := gt_at he.e1
  have g8 := gt_at he.e8
  refine con_of_body Tryz.func206 rfl Tryz.call206 (by rw [Tryz.ntmps206]; simp) ?_
  rw [Tryz.ntmps206, Tryz.results206]
  by_cases hl : 32 < l.length
  · have hL : (32 : Int) < l.length := by omega
    rw [show exprAV a1 a8 l vs ss = errV (-1) (sentV a8) by unfold exprAV; rw [codeC_long vs ss hl]; rfl]
    have F := And.intro hL <| g8
    repeat (first | refine st ?_ | refine cC (new_con env _ a8) ?_)
    exact aR
  have hL : ¬ (32 : Int) < l.length := by omega
  have F := hL
  repeat refine st ?_
  refine awp_loopH (D := Nat × Int) (fun d _ => [(1, I vs), (2, I ss), (7, I d.2), (16, opsAV l), (17, I l.length), (18, I d.1)]) (fun _ _ => []) (fun d _ _ => d.1 ≤ l.length ∧ hgt vs ss l 0 = hgt vs ss (l.drop d.1) d.2 ∧ 0 ≤ d.2 ∧ d.2 ≤ d.1) (fun d => l.length - d.1) (0, 0) ?_ ?_ ?_ ?_
  · exact ⟨Nat.zero_le _, rfl, Int.le_refl _, Int.le_refl _⟩
  · (simp only [go_sem, F])
  · (simp only [go_sem, F])
  rintro ⟨i, n⟩ ws esc ⟨hi, hh, h0, hn⟩
  simp only at hi hh h0 hn
  by_cases hlt : i < l.length
  · obtain ⟨o, ho, _⟩ := some_at hlt
    obtain ⟨up, no⟩ := hgt_step ho hh
    have k1 := nlt hlt
    have k2 := wrap_succ hlt (by omega)
    have hop := operandsI_in o.kind
    cases hok : stepOk vs ss n o with
    | true =>
      obtain ⟨b1, b2, b3⟩ := stepOk_is hok
      have w1 : IntKind.i64.wrap (1 - operandsI o.kind) = 1 - operandsI o.kind := wrap_in (by omega) (by omega)
      have w2 : IntKind.i64.wrap (n + (1 - operandsI o.kind)) = n + (1 - operandsI o.kind) := wrap_in (by omega) (by omega)
      have F := And.intro k1 <| And.intro k2 <| And.intro ho <| And.intro opAV.eq_1 <| And.intro b1 <| And.intro b2 <| And.intro b3 <| And.intro w1 <| w2
      repeat (first | refine st ?_ | refine cC (pOperands_con env o.kind) ?_ | refine cC (pNumber_con env o vs ss) ?_)
      refine ⟨(i + 1, n + (1 - operandsI o.kind)), ⟨by simp only; omega, ?_, by simp only; omega, by simp only; omega⟩, ?_, ?_, ?_⟩
      · simp only
        rw [up hok]
        congr 1
        omega
      · (simp only [go_sem, F])
      · (simp only [go_sem, F])
      · simp only; omega
    | false =>
      rw [show exprAV a1 a8 l vs ss = errV (-1) (sentV a1) by unfold exprAV; rw [codeC_no hl (by rw [no hok]; simp)]; rfl]
      rcases stepOk_not hok with b1 | ⟨b1, b2⟩ | ⟨b1, b2, b3⟩
      · have F := And.intro k1 <| And.intro k2 <| And.intro ho <| And.intro opAV.eq_1 <| And.intro b1 <| g1
        repeat (first | refine st ?_ | refine cC (pOperands_con env o.kind) ?_ | refine cC (pNumber_con env o vs ss) ?_ | refine cC (new_con env _ a1) ?_)
        exact aR
      · have F := And.intro k1 <| And.intro k2 <| And.intro ho <| And.intro opAV.eq_1 <| And.intro b1 <| And.intro b2 <| g1
        repeat (first | refine st ?_ | refine cC (pOperands_con env o.kind) ?_ | refine cC (pNumber_con env o vs ss) ?_ | refine cC (new_con env _ a1) ?_)
        exact aR
      · have F := And.intro k1 <| And.intro k2 <| And.intro ho <| And.intro opAV.eq_1 <| And.intro b1 <| And.intro b2 <| And.intro b3 <| g1
        repeat (first | refine st ?_ | refine cC (pOperands_con env o.kind) ?_ | refine cC (pNumber_con env o vs ss) ?_ | refine cC (new_con env _ a1) ?_)
        exact aR
  · have k1 : ¬ (i : Int) < (l.length : Int) := by omega
    have hend := hgt_end (by omega) hh
    by_cases h1 : n = 1
    · subst h1
      rw [show exprAV a1 a8 l vs ss = nilE by unfold exprAV; rw [codeC_yes hl hend]; rfl]
      have F := And.intro k1 <| g1
      repeat (first | refine st ?_ | refine cC (new_con env _ a1) ?_)
      exact aR
    · rw [show exprAV a1 a8 l vs ss = errV (-1) (sentV a1) by unfold exprAV; rw [codeC_no hl (by rw [hend]; simpa using h1)]; rfl]
      have k2 : (n != 1) = true := by simpa using h1
      have F := And.intro k1 <| And.intro k2 <| g1
      repeat (first | refine st ?_ | refine cC (new_con env _ a1) ?_)
      exact aR
theorem rExprCheck_con (env : Env) (l : List OpD) (vs ss : Int) : Con Tryz.prog env 174 [opsAV l, I vs, I ss] (I (codeC l vs ss)) := by
  refine con_of_body Tryz.func174 rfl Tryz.call174 (by rw [Tryz.ntmps174]; simp) ?_
  rw [Tryz.ntmps174, Tryz.results174]
  by_cases hl : 32 < l.length
  · have hL : (32 : Int) < l.length := by omega
    rw [codeC_long vs ss hl]
    have F := hL
    repeat refine st ?_
    exact aR
  have hL : ¬ (32 : Int) < l.length := by omega
  have F := hL
  repeat refine st ?_
  refine awp_loopH (D := Nat × Int) (fun d _ => [(0, opsAV l), (1, I vs), (2, I ss), (7, I d.2), (8, I d.1)]) (fun _ _ => []) (fun d _ _ => d.1 ≤ l.length ∧ hgt vs ss l 0 = hgt vs ss (l.drop d.1) d.2 ∧ 0 ≤ d.2 ∧ d.2 ≤ d.1) (fun d => l.length - d.1) (0, 0) ?_ ?_ ?_ ?_
  · exact ⟨Nat.zero_le _, rfl, Int.le_refl _, Int.le_refl _⟩
  · (simp only [go_sem, F])
  · (simp only [go_sem, F])
  rintro ⟨i, n⟩ ws esc ⟨hi, hh, h0, hn⟩
  simp only at hi hh h0 hn
  by_cases hlt : i < l.length
  · obtain ⟨o, ho, _⟩ := some_at hlt
    obtain ⟨up, no⟩ := hgt_step ho hh
    have k1 := nlt hlt
    have k2 := wrap_succ hlt (by omega)
    have hop := operandsI_in o.kind
    cases hok : stepOk vs ss n o with
    | true =>
      obtain ⟨b1, b2, b3⟩ := stepOk_is hok
      have w1 : IntKind.i64.wrap (n - operandsI o.kind) = n - operandsI o.kind := wrap_in (by omega) (by omega)
      have w2 : IntKind.i64.wrap (n - operandsI o.kind + 1) = n - operandsI o.kind + 1 := wrap_in (by omega) (by omega)
      have F := And.intro k1 <| And.intro k2 <| And.intro ho <| And.intro opAV.eq_1 <| And.intro b1 <| And.intro b2 <| And.intro b3 <| And.intro w1 <| w2
      repeat (first | refine st ?_ | refine cC (rOperands_con env o.kind) ?_ | refine cC (rNumber_con env o vs ss) ?_)
      refine ⟨(i + 1, n - operandsI o.kind + 1), ⟨by simp only; omega, up hok, by simp only; omega, by simp only; omega⟩, ?_, ?_, ?_⟩
      · (simp only [go_sem, F])
      · (simp only [go_sem, F])
      · simp only; omega
    | false =>
      rw [codeC_no hl (by rw [no hok]; simp)]
      rcases stepOk_not hok with b1 | ⟨b1, b2⟩ | ⟨b1, b2, b3⟩
      · have F := And.intro k1 <| And.intro k2 <| And.intro ho <| And.intro opAV.eq_1 <| b1
        repeat (first | refine st ?_ | refine cC (rOperands_con env o.kind) ?_ | refine cC (rNumber_con env o vs ss) ?_)
        exact aR
      · have F := And.intro k1 <| And.intro k2 <| And.intro ho <| And.intro opAV.eq_1 <| And.intro b1 <| b2
        repeat (first | refine st ?_ | refine cC (rOperands_con env o.kind) ?_ | refine cC (rNumber_con env o vs ss) ?_)
        exact aR
      · have F := And.intro k1 <| And.intro k2 <| And.intro ho <| And.intro opAV.eq_1 <| And.intro b1 <| And.intro b2 <| b3
        repeat (first | refine st ?_ | refine cC (rOperands_con env o.kind) ?_ | refine cC (rNumber_con env o vs ss) ?_)
        exact aR
  · have k1 : ¬ (i : Int) < (l.length : Int) := by omega
    have hend := hgt_end (by omega) hh
    by_cases h1 : n = 1
    · subst h1
      rw [codeC_yes hl hend]
      have F := k1
      repeat refine st ?_
      exact aR
    · rw [codeC_no hl (by rw [hend]; simpa using h1)]
      have k2 : (n != 1) = true := by simpa using h1
      have F := And.intro k1 <| k2
      repeat refine st ?_
      exact aR
end Go.Proofs.YthffdneigmbgfaaGreatDoor
set_option linter.unusedSimpArgs false
namespace Go.Proofs.YthffdneigmbgfaaGreatDoor
open Go.RowKit
set_option maxRecDepth 100000
set_option maxHeartbeats 1000000
def natAV (k : Nat) : List AV := [I k]
abbrev nsAV (l : List Nat) : AV := .seq 1 (l.map natAV)
def idxFrom : List Nat → Int → Nat → Int
  | [], _, _ => -1
  | x :: l, v, k => if (x : Int) = v then k else idxFrom l v (k + 1)
def idxI (l : List Nat) (v : Int) : Int := idxFrom l v 0
theorem idx_step {l : List Nat} {v : Int} {k x : Nat} (h : l[k]? = some x) (hn : idxI l v = idxFrom (l.drop k) v k) : ((x : Int) = v → idxI l v = k) ∧ ((x : Int) ≠ v → idxI l v = idxFrom (l.drop (k + 1)) v (k + 1)) := by
  have hk : k < l.length := (List.getElem?_eq_some_iff.1 h).1
  have he : l.drop k = x :: l.drop (k + 1) := by
    rw [List.drop_eq_getElem_cons hk]
    congr 1
    rw [List.getElem?_eq_getElem hk] at h
    exact Option.some.inj h
  rw [he] at hn
  simp only [idxFrom] at hn
  exact ⟨fun e => by rw [hn, if_pos e], fun e => by rw [hn, if_neg e]⟩
theorem idx_end {l : List Nat} {v : Int} {k : Nat} (h : l.length ≤ k) (hn : idxI l v = idxFrom (l.drop k) v k) : idxI l v = -1 := by
  rw [hn, List.drop_eq_nil_of_le h]
  rfl
theorem idx_in (v : Int) : ∀ (l : List Nat) (k : Nat), decide (0 ≤ idxFrom l v k) = inL l v
  | [], k => rfl
  | x :: l, k => by
    have ih := idx_in v l (k + 1)
    have e0 : inL (x :: l) v = (((x : Int) == v) || inL l v) := rfl
    rw [e0, ← ih]
    by_cases e : (x : Int) = v
    · have e1 : idxFrom (x :: l) v k = k := if_pos e
      rw [Bool.eq_iff_iff]
      simp [e1, e]
    · have e1 : idxFrom (x :: l) v k = idxFrom l v (k + 1) := if_neg e
      rw [Bool.eq_iff_iff]
      simp [e1, e]
theorem index_con (env : Env) (l : List Nat) (v : Int) (hl : l.length ≤ 1000000) : Con Tryz.prog env 118 [nsAV l, I v] (I (idxI l v)) := by
  refine con_of_body Tryz.func118 rfl Tryz.call118 (by rw [Tryz.ntmps118]; simp) ?_
  rw [Tryz.ntmps118, Tryz.results118]
  repeat refine st0 ?_
  refine awp_loopH (D := Nat) (fun k _ => [(0, nsAV l), (1, I v), (7, I l.length), (8, I k)]) (fun _ _ => []) (fun k _ _ => k ≤ l.length ∧ idxI l v = idxFrom (l.drop k) v k) (fun k => l.length - k) 0 ?_ ?_ ?_ ?_
  · exact ⟨Nat.zero_le _, rfl⟩
  · (simp only [go_sem])
  · (simp only [go_sem])
  rintro k ws esc ⟨hk, hi⟩
  by_cases hlt : k < l.length
  · obtain ⟨x, hx, _⟩ := some_at hlt
    obtain ⟨yes, no⟩ := idx_step hx hi
    have k1 := nlt hlt
    have k2 := wrap_succ hlt (by omega)
    by_cases e : (x : Int) = v
    · rw [yes e]
      have k3 : (v == (x : Int)) = true := by simp [e]
      have F := And.intro k1 <| And.intro k2 <| And.intro k3 <| And.intro hx <| natAV.eq_1
      repeat refine st ?_
      exact aR
    · have k3 : (v == (x : Int)) = false := by simpa using fun h => e h.symm
      have F := And.intro k1 <| And.intro k2 <| And.intro k3 <| And.intro hx <| natAV.eq_1
      repeat refine st ?_
      refine ⟨k + 1, ⟨hlt, no e⟩, ?_, ?_, ?_⟩
      · (simp only [go_sem, F])
      · (simp only [go_sem, F])
      · omega
  · have k1 : ¬ (k : Int) < (l.length : Int) := by omega
    rw [idx_end (by omega) hi]
    have F := k1
    repeat refine st ?_
    exact aR
theorem contains_con (env : Env) (l : List Nat) (v : Int) (hl : l.length ≤ 1000000) : Con Tryz.prog env 81 [nsAV l, I v] (B (inL l v)) := by
  have h := idx_in v l 0
  refine con_of_body Tryz.func81 rfl Tryz.call81 (by rw [Tryz.ntmps81]; simp) ?_
  rw [Tryz.ntmps81, Tryz.results81]
  repeat (first | refine st0 ?_ | refine cC0 (index_con env l v hl) ?_)
  (refine awp_ret ?_; show (resRd _ _ _).run _ = some _; simp only [go_sem])
  exact congrArg B h
theorem rIn_con (env : Env) (l : List Nat) (v : Int) (hl : l.length ≤ 1000000) : Con Tryz.prog env 25 [nsAV l, I v] (B (inL l v)) := by
  rw [← idx_in v l 0, show idxFrom l v 0 = idxI l v from rfl]
  refine con_of_body Tryz.func25 rfl Tryz.call25 (by rw [Tryz.ntmps25]; simp) ?_
  rw [Tryz.ntmps25, Tryz.results25]
  repeat refine st0 ?_
  refine awp_loopH (D := Nat) (fun k _ => [(0, nsAV l), (1, I v), (5, I k)]) (fun _ _ => []) (fun k _ _ => k ≤ l.length ∧ idxI l v = idxFrom (l.drop k) v k) (fun k => l.length - k) 0 ?_ ?_ ?_ ?_
  · exact ⟨Nat.zero_le _, rfl⟩
  · (simp only [go_sem])
  · (simp only [go_sem])
  rintro k ws esc ⟨hk, hi⟩
  by_cases hlt : k < l.length
  · obtain ⟨x, hx, _⟩ := some_at hlt
    obtain ⟨yes, no⟩ := idx_step hx hi
    have k1 := nlt hlt
    have k2 := wrap_succ hlt (by omega)
    by_cases e : (x : Int) = v
    · rw [yes e, decide_eq_true (Int.natCast_nonneg k)]
      have k3 : ((x : Int) == v) = true := by simp [e]
      have F := And.intro k1 <| And.intro k2 <| And.intro k3 <| And.intro hx <| natAV.eq_1
      repeat refine st ?_
      exact aR
    · have k3 : ((x : Int) == v) = false := by simpa using e
      have F := And.intro k1 <| And.intro k2 <| And.intro k3 <| And.intro hx <| natAV.eq_1
      repeat refine st ?_
      refine ⟨k + 1, ⟨hlt, no e⟩, ?_, ?_, ?_⟩
      · (simp only [go_sem, F])
      · (simp only [go_sem, F])
      · omega
  · have k1 : ¬ (k : Int) < (l.length : Int) := by omega
    rw [idx_end (by omega) hi]
    have F := k1
    repeat refine st ?_
    exact aR
/-! Kids -/
theorem isKid_at {c : ChD} {k : Nat} {s : StD} (hs : c.states[k]? = some s) (i : Int) (real : Bool) : isKid c i real k = ((s.parent == i) && (!real || !memyB s)) := by unfold isKid; rw [hs]
theorem kids_more {c : ChD} {i : Int} {real : Bool} {k : Nat} (h : isKid c i real k = true) : (kidsTo c i real (k + 1)).map natAV = (kidsTo c i real k).map natAV ++ [[I k]] := by
  rw [kidsTo_succ, h, if_pos rfl, List.map_append]
  rfl
theorem kids_same {c : ChD} {i : Int} {real : Bool} {k : Nat} (h : isKid c i real k = false) : (kidsTo c i real (k + 1)).map natAV = (kidsTo c i real k).map natAV := by
  rw [kidsTo_succ, h]
  simp
theorem pReal_con (env : Env) (c : ChD) (i : Int) (hc : c.states.length ≤ 1000000) : Con Tryz.prog env 72 [.agg (chAV c), I i] (.own 3 1 ((kidsL c i true).map natAV)) := by
  refine con_of_body Tryz.func72 rfl Tryz.call72 (by rw [Tryz.ntmps72]; simp) ?_
  rw [Tryz.ntmps72, Tryz.results72]
  have F := chAV.eq_1
  repeat refine st ?_
  refine awp_nilrow 5 5 3 1 ?_
  refine awp_loopH (D := Nat) (fun k vs => [(1, I i), (5, .row 5 (vs 5)), (9, stsAV c.states), (10, I c.states.length), (11, I k)]) (fun k _ => [(5, ⟨1, (kidsTo c i true k).map natAV, 3, true⟩)]) (fun k _ esc => k ≤ c.states.length ∧ esc 5 = false) (fun k => c.states.length - k) 0 ?_ ?_ ?_ ?_
  · exact ⟨Nat.zero_le _, rfl⟩
  · (simp only [go_sem, F])
  · (simp only [go_sem, F])
    simp [kidsTo]
  rintro k ws esc ⟨hk, he⟩
  by_cases hlt : k < c.states.length
  · obtain ⟨s, hs, _⟩ := some_at hlt
    have k1 := nlt hlt
    have k2 := wrap_succ hlt (by omega)
    have hkid := isKid_at hs i true
    have hlen := kidsTo_len c i true k
    have hf : Fits ((kidsTo c i true k).length + 1) 8 := ⟨by omega, by omega⟩
    cases h1 : (s.parent == i) with
    | false =>
      have hsame := kids_same (show isKid c i true k = false by rw [hkid, h1]; rfl)
      have F := And.intro k1 <| And.intro k2 <| And.intro hs <| And.intro stAV.eq_1 <| h1
      repeat (first | refine st ?_ | refine cC (pHistory_con env s) ?_)
      refine ⟨k + 1, ⟨hlt, by simp only [go_sem, he]⟩, ?_, ?_, ?_⟩
      · (simp only [go_sem, F])
      · have F := And.intro k1 <| And.intro k2 <| And.intro hs <| And.intro stAV.eq_1 <| And.intro h1 <| hsame
        (simp only [go_sem, F])
      · omega
    | true =>
      cases h2 : memyB s with
      | true =>
        have hsame := kids_same (show isKid c i true k = false by rw [hkid, h1, h2]; rfl)
        have F := And.intro k1 <| And.intro k2 <| And.intro hs <| And.intro stAV.eq_1 <| And.intro h1 <| h2
        repeat (first | refine st ?_ | refine cC (pHistory_con env s) ?_)
        refine ⟨k + 1, ⟨hlt, by simp only [go_sem, he]⟩, ?_, ?_, ?_⟩
        · (simp only [go_sem, F])
        · have F := And.intro k1 <| And.intro k2 <| And.intro hs <| And.intro stAV.eq_1 <| And.intro h1 <| And.intro h2 <| hsame
          (simp only [go_sem, F])
        · omega
      | false =>
        have hmore := kids_more (show isKid c i true k = true by rw [hkid, h1, h2]; rfl)
        have F := And.intro k1 <| And.intro k2 <| And.intro hs <| And.intro stAV.eq_1 <| And.intro h1 <| And.intro h2 <| hf
        repeat (first | refine st ?_ | refine cC (pHistory_con env s) ?_)
        refine ⟨k + 1, ⟨hlt, by simp only [go_sem, he]⟩, ?_, ?_, ?_⟩
        · (simp only [go_sem, F])
        · have F := And.intro k1 <| And.intro k2 <| And.intro hs <| And.intro stAV.eq_1 <| And.intro h1 <| And.intro h2 <| hmore
          (simp only [go_sem, F])
        · omega
  · have k1 : ¬ (k : Int) < (c.states.length : Int) := by omega
    obtain rfl : k = c.states.length := by omega
    have F := And.intro k1 <| he
    repeat refine st ?_
    (refine awp_ret ?_; show (resRd _ _ _).run _ = some _; simp only [go_sem, F])
    rfl
theorem pKids_con (env : Env) (c : ChD) (i : Int) (hc : c.states.length ≤ 1000000) : Con Tryz.prog env 80 [.agg (chAV c), I i] (.own 3 1 ((kidsL c i false).map natAV)) := by
  refine con_of_body Tryz.func80 rfl Tryz.call80 (by rw [Tryz.ntmps80]; simp) ?_
  rw [Tryz.ntmps80, Tryz.results80]
  have F := chAV.eq_1
  repeat refine st ?_
  refine awp_nilrow 5 5 3 1 ?_
  refine awp_loopH (D := Nat) (fun k vs => [(1, I i), (5, .row 5 (vs 5)), (9, stsAV c.states), (10, I c.states.length), (11, I k)]) (fun k _ => [(5, ⟨1, (kidsTo c i false k).map natAV, 3, true⟩)]) (fun k _ esc => k ≤ c.states.length ∧ esc 5 = false) (fun k => c.states.length - k) 0 ?_ ?_ ?_ ?_
  · exact ⟨Nat.zero_le _, rfl⟩
  · (simp only [go_sem, F])
  · (simp only [go_sem, F])
    simp [kidsTo]
  rintro k ws esc ⟨hk, he⟩
  by_cases hlt : k < c.states.length
  · obtain ⟨s, hs, _⟩ := some_at hlt
    have k1 := nlt hlt
    have k2 := wrap_succ hlt (by omega)
    have hkid := isKid_at hs i false
    have hlen := kidsTo_len c i false k
    have hf : Fits ((kidsTo c i false k).length + 1) 8 := ⟨by omega, by omega⟩
    cases h1 : (s.parent == i) with
    | false =>
      have hsame := kids_same (show isKid c i false k = false by rw [hkid, h1]; rfl)
      have F := And.intro k1 <| And.intro k2 <| And.intro hs <| And.intro stAV.eq_1 <| h1
      repeat refine st ?_
      refine ⟨k + 1, ⟨hlt, by simp only [go_sem, he]⟩, ?_, ?_, ?_⟩
      · (simp only [go_sem, F])
      · have F := And.intro k1 <| And.intro k2 <| And.intro hs <| And.intro stAV.eq_1 <| And.intro h1 <| hsame
        (simp only [go_sem, F])
      · omega
    | true =>
      have hmore := kids_more (show isKid c i false k = true by rw [hkid, h1]; rfl)
      have F := And.intro k1 <| And.intro k2 <| And.intro hs <| And.intro stAV.eq_1 <| And.intro h1 <| hf
      repeat refine st ?_
      refine ⟨k + 1, ⟨hlt, by simp only [go_sem, he]⟩, ?_, ?_, ?_⟩
      · (simp only [go_sem, F])
      · have F := And.intro k1 <| And.intro k2 <| And.intro hs <| And.intro stAV.eq_1 <| And.intro h1 <| hmore
        (simp only [go_sem, F])
      · omega
  · have k1 : ¬ (k : Int) < (c.states.length : Int) := by omega
    obtain rfl : k = c.states.length := by omega
    have F := And.intro k1 <| he
    repeat refine st ?_
    (refine awp_ret ?_; show (resRd _ _ _).run _ = some _; simp only [go_sem, F])
    rfl
theorem rKids_con (env : Env) (c : ChD) (i : Int) (real : Bool) (hc : c.states.length ≤ 1000000) : Con Tryz.prog env 30 [.agg (chAV c), I i, B real] (.own 3 1 ((kidsL c i real).map natAV)) := by
  refine con_of_body Tryz.func30 rfl Tryz.call30 (by rw [Tryz.ntmps30]; simp) ?_
  rw [Tryz.ntmps30, Tryz.results30]
  have F := chAV.eq_1
  repeat refine st ?_
  refine awp_loopH (D := Nat) (fun k vs => [(1, I i), (2, B real), (3, .loc 3 (vs 3) 0 0), (7, .row 9 (vs 9)), (8, I k)]) (fun k _ => [(3, ⟨5, [chAV c], 26, false⟩), (9, ⟨1, (kidsTo c i real k).map natAV, 3, true⟩)]) (fun k _ esc => k ≤ c.states.length ∧ esc 9 = false) (fun k => c.states.length - k) 0 ?_ ?_ ?_ ?_
  · exact ⟨Nat.zero_le _, rfl⟩
  · (simp only [go_sem, F])
  · (simp only [go_sem, F])
    simp [kidsTo]
  rintro k ws esc ⟨hk, he⟩
  by_cases hlt : k < c.states.length
  · obtain ⟨s, hs, _⟩ := some_at hlt
    have k1 := nlt hlt
    have k2 := wrap_succ hlt (by omega)
    have hkid := isKid_at hs i real
    have hlen := kidsTo_len c i real k
    have hf : Fits ((kidsTo c i real k).length + 1) 8 := ⟨by omega, by omega⟩
    cases h1 : (s.parent == i) with
    | false =>
      have hsame := kids_same (show isKid c i real k = false by rw [hkid, h1]; rfl)
      have F := And.intro chAV.eq_1 <| And.intro k1 <| And.intro k2 <| And.intro hs <| And.intro stAV.eq_1 <| h1
      repeat (first | refine st ?_ | refine cC (rMemory_con env s) ?_)
      refine ⟨k + 1, ⟨hlt, by simp only [go_sem, he]⟩, ?_, ?_, ?_⟩
      · (simp only [go_sem, F])
      · have F := And.intro chAV.eq_1 <| And.intro k1 <| And.intro k2 <| And.intro hs <| And.intro stAV.eq_1 <| And.intro h1 <| hsame
        (simp only [go_sem, F])
      · omega
    | true =>
      cases real with
      | false =>
        have hmore := kids_more (show isKid c i false k = true by rw [hkid, h1]; rfl)
        have F := And.intro chAV.eq_1 <| And.intro k1 <| And.intro k2 <| And.intro hs <| And.intro stAV.eq_1 <| And.intro h1 <| hf
        repeat (first | refine st ?_ | refine cC (rMemory_con env s) ?_)
        refine ⟨k + 1, ⟨hlt, by simp only [go_sem, he]⟩, ?_, ?_, ?_⟩
        · (simp only [go_sem, F])
        · have F := And.intro chAV.eq_1 <| And.intro k1 <| And.intro k2 <| And.intro hs <| And.intro stAV.eq_1 <| And.intro h1 <| hmore
          (simp only [go_sem, F])
        · omega
      | true =>
        cases h2 : memyB s with
        | true =>
          have hsame := kids_same (show isKid c i true k = false by rw [hkid, h1, h2]; rfl)
          have F := And.intro chAV.eq_1 <| And.intro k1 <| And.intro k2 <| And.intro hs <| And.intro stAV.eq_1 <| And.intro h1 <| h2
          repeat (first | refine st ?_ | refine cC (rMemory_con env s) ?_)
          refine ⟨k + 1, ⟨hlt, by simp only [go_sem, he]⟩, ?_, ?_, ?_⟩
          · (simp only [go_sem, F])
          · have F := And.intro chAV.eq_1 <| And.intro k1 <| And.intro k2 <| And.intro hs <| And.intro stAV.eq_1 <| And.intro h1 <| And.intro h2 <| hsame
            (simp only [go_sem, F])
          · omega
        | false =>
          have hmore := kids_more (show isKid c i true k = true by rw [hkid, h1, h2]; rfl)
          have F := And.intro chAV.eq_1 <| And.intro k1 <| And.intro k2 <| And.intro hs <| And.intro stAV.eq_1 <| And.intro h1 <| And.intro h2 <| hf
          repeat (first | refine st ?_ | refine cC (rMemory_con env s) ?_)
          refine ⟨k + 1, ⟨hlt, by simp only [go_sem, he]⟩, ?_, ?_, ?_⟩
          · (simp only [go_sem, F])
          · have F := And.intro chAV.eq_1 <| And.intro k1 <| And.intro k2 <| And.intro hs <| And.intro stAV.eq_1 <| And.intro h1 <| And.intro h2 <| hmore
            (simp only [go_sem, F])
          · omega
  · have k1 : ¬ (k : Int) < (c.states.length : Int) := by omega
    obtain rfl : k = c.states.length := by omega
    have F := And.intro chAV.eq_1 <| And.intro k1 <| he
    repeat refine st ?_
    (refine awp_ret ?_; show (resRd _ _ _).run _ = some _; simp only [go_sem, F])
    rfl
/-! The state of a name -/
theorem pFind_con (env : Env) (c : ChD) (name : List UInt8) (hc : c.states.length ≤ 1000000) : Con Tryz.prog env 187 [.agg (chAV c), Sg name] (I (findI c name)) := by
  refine con_of_body Tryz.func187 rfl Tryz.call187 (by rw [Tryz.ntmps187]; simp) ?_
  rw [Tryz.ntmps187, Tryz.results187]
  have F := chAV.eq_1
  repeat refine st ?_
  refine awp_loopH (D := Nat) (fun k _ => [(1, Sg name), (8, stsAV c.states), (9, I c.states.length), (10, I k)]) (fun _ _ => []) (fun k _ _ => k ≤ c.states.length ∧ findTo c name k = -1) (fun k => c.states.length - k) 0 ?_ ?_ ?_ ?_
  · exact ⟨Nat.zero_le _, rfl⟩
  · (simp only [go_sem, F])
  · (simp only [go_sem, F])
  rintro k ws esc ⟨hk, hf⟩
  by_cases hlt : k < c.states.length
  · obtain ⟨s, hs, _⟩ := some_at hlt
    have k1 := nlt hlt
    have k2 := wrap_succ hlt (by omega)
    cases h1 : (s.name == name) with
    | true =>
      rw [findTo_is c name hlt hf s hs (by simpa using h1)]
      have F := And.intro k1 <| And.intro k2 <| And.intro hs <| And.intro stAV.eq_1 <| h1
      repeat refine st ?_
      exact aR
    | false =>
      have F := And.intro k1 <| And.intro k2 <| And.intro hs <| And.intro stAV.eq_1 <| h1
      repeat refine st ?_
      refine ⟨k + 1, ⟨hlt, findTo_step c name hf s hs (by simpa using h1)⟩, ?_, ?_, ?_⟩
      · (simp only [go_sem, F])
      · (simp only [go_sem, F])
      · omega
  · have k1 : ¬ (k : Int) < (c.states.length : Int) := by omega
    obtain rfl : k = c.states.length := by omega
    rw [show findI c name = -1 from hf]
    have F := k1
    repeat refine st ?_
    exact aR
theorem rFind_con (env : Env) (c : ChD) (name : List UInt8) (hc : c.states.length ≤ 1000000) : Con Tryz.prog env 138 [.agg (chAV c), Sg name] (I (findI c name)) := by
  refine con_of_body Tryz.func138 rfl Tryz.call138 (by rw [Tryz.ntmps138]; simp) ?_
  rw [Tryz.ntmps138, Tryz.results138]
  have F := chAV.eq_1
  repeat refine st ?_
  refine awp_loopH (D := Nat) (fun k vs => [(1, Sg name), (2, .loc 2 (vs 2) 0 0), (5, I k)]) (fun _ _ => [(2, ⟨5, [chAV c], 26, false⟩)]) (fun k _ _ => k ≤ c.states.length ∧ findTo c name k = -1) (fun k => c.states.length - k) 0 ?_ ?_ ?_ ?_
  · exact ⟨Nat.zero_le _, rfl⟩
  · (simp only [go_sem, F])
  · (simp only [go_sem, F])
  rintro k ws esc ⟨hk, hf⟩
  by_cases hlt : k < c.states.length
  · obtain ⟨s, hs, _⟩ := some_at hlt
    have k1 := nlt hlt
    have k2 := wrap_succ hlt (by omega)
    cases h1 : (s.name == name) with
    | true =>
      rw [findTo_is c name hlt hf s hs (by simpa using h1)]
      have F := And.intro chAV.eq_1 <| And.intro k1 <| And.intro k2 <| And.intro hs <| And.intro stAV.eq_1 <| h1
      repeat refine st ?_
      exact aR
    | false =>
      have F := And.intro chAV.eq_1 <| And.intro k1 <| And.intro k2 <| And.intro hs <| And.intro stAV.eq_1 <| h1
      repeat refine st ?_
      refine ⟨k + 1, ⟨hlt, findTo_step c name hf s hs (by simpa using h1)⟩, ?_, ?_, ?_⟩
      · (simp only [go_sem, F])
      · (simp only [go_sem, F])
      · omega
  · have k1 : ¬ (k : Int) < (c.states.length : Int) := by omega
    obtain rfl : k = c.states.length := by omega
    rw [show findI c name = -1 from hf]
    have F := And.intro chAV.eq_1 <| k1
    repeat refine st ?_
    exact aR
end Go.Proofs.YthffdneigmbgfaaGreatDoor
