/- The closures that count names into a map. -/
import Derived.Test.YtaonccobohiiiaaDoorHD
import Derived.Test.YtaonccobohiiiaaDoorEvi
import Derived.Test.YtaonccobohiiiaaDoorSt
import Derived.Test.YtaonccobohiiiaaDoorVU
set_option linter.unusedSimpArgs false
namespace Go.Proofs.YtaonccobohiiiaaDoor
open Go.RowKit
set_option maxRecDepth 100000
set_option maxHeartbeats 16000000

/-- A map of names, a number beside each. -/
def cntE (M : List (List UInt8 × Int)) : List (List AV) := M.map fun p => [Sg p.1, I p.2]
def idxS : List (List UInt8 × Int) → List UInt8 → Nat → Option Nat
  | [], _, _ => none
  | x :: l, k, n => if k = x.1 then some n else idxS l k (n + 1)
theorem idxS_none {k : List UInt8} : ∀ {l : List (List UInt8 × Int)} {n : Nat}, k ∉ l.map (·.1) → idxS l k n = none
  | [], _, _ => rfl
  | x :: l, n, h => by
    unfold idxS
    rw [if_neg (fun e => h (by rw [e]; exact List.mem_cons_self ..)), idxS_none (fun hh => h (List.mem_cons_of_mem _ hh))]
theorem idxS_some {k : List UInt8} : ∀ {l : List (List UInt8 × Int)} {n : Nat}, k ∈ l.map (·.1) → ∃ i v, idxS l k n = some (n + i) ∧ l[i]? = some (k, v)
  | [], n, h => by cases h
  | x :: l, n, h => by
    unfold idxS
    by_cases e : k = x.1
    · exact ⟨0, x.2, by rw [if_pos e]; rfl, by rw [e]; rfl⟩
    · obtain ⟨i, v, h1, h2⟩ := idxS_some (n := n + 1) ((List.mem_cons.1 h).resolve_left e)
      exact ⟨i + 1, v, by rw [if_neg e, h1]; congr 1; omega, by simpa using h2⟩
theorem mfind_S (k : List UInt8) : ∀ (l : List (List UInt8 × Int)) (n : Nat), mfind Tryd.prog 9 (Sg k) (cntE l) n = some (idxS l k n)
  | [], n => rfl
  | x :: l, n => by
    have ih := mfind_S k l (n + 1)
    unfold cntE at ih ⊢
    unfold idxS
    by_cases e : k = x.1
    · have e1 : (k == x.1) = true := by simp [e]
      simp only [go_sem, keyCmp, eqCell, List.map_cons, e1, if_pos e]
    · have e1 : (k == x.1) = false := by simpa using e
      simp only [go_sem, keyCmp, eqCell, List.map_cons, e1, if_neg e, ih]
/-- A name is counted. -/
def bump (M : List (List UInt8 × Int)) (k : List UInt8) : List (List UInt8 × Int) := match idxS M k 0 with
  | some i => M.set i (k, IntKind.i64.wrap (((M[i]?).map (·.2)).getD 0 + 1))
  | none => M ++ [(k, 1)]
theorem bump_in {M : List (List UInt8 × Int)} {k : List UInt8} (h : k ∈ M.map (·.1)) : (bump M k).map (·.1) = M.map (·.1) := by
  obtain ⟨i, v, h1, h2⟩ := idxS_some (n := 0) h
  unfold bump
  rw [h1, Nat.zero_add]
  simp only
  rw [List.map_set]
  apply List.ext_getElem?
  intro j
  rw [List.getElem?_set]
  split
  · rename_i e
    subst e
    rw [List.getElem?_map, h2]
    have := (List.getElem?_eq_some_iff.1 h2).1
    simp [this]
  · rfl
theorem bump_out {M : List (List UInt8 × Int)} {k : List UInt8} (h : k ∉ M.map (·.1)) : (bump M k).map (·.1) = M.map (·.1) ++ [k] := by
  unfold bump
  rw [idxS_none h]
  simp
theorem evAdd_con (env : Env) (M : List (List UInt8 × Int)) (a : ActD) (te : TypeId) : ConI Tryd.prog env 26 [1000, 1001] (fun _ => false) (fun vs => [.agg (actAV a), .loc 1000 (vs 1000) 0 0]) (fun vs => [(1000, ⟨1, [[.mp 1001 (vs 1001)]], te, false⟩), (1001, ⟨0, cntE M, 58, true⟩)]) (fun vs => [(1000, ⟨1, [[.mp 1001 (vs 1001)]], te, false⟩), (1001, ⟨0, cntE (if a.kind = 2 then bump M a.name else M), 58, true⟩)]) (fun _ => .lit (.tuple #[])) := by
  have hm := mfind_S a.name M 0
  by_cases hk : a.kind = 2
  · have b1 : (a.kind == 2) = true := by simp [hk]
    rw [if_pos hk]
    by_cases hin : a.name ∈ M.map (·.1)
    · obtain ⟨i, v, h1, h2⟩ := idxS_some (n := 0) hin
      rw [h1, Nat.zero_add] at hm
      have h3 : (cntE M)[i]? = some [Sg a.name, I v] := by unfold cntE; rw [List.getElem?_map, h2]; rfl
      have h4 : cntE (bump M a.name) = (cntE M).set i [Sg a.name, I (IntKind.i64.wrap (v + 1))] := by
        unfold bump cntE
        rw [h1, Nat.zero_add]
        simp only [h2, Option.map_some, Option.getD_some]
        rw [List.map_set]
      refine ⟨Tryd.call26, _, _, Tryd.func26, rfl, (by intro _; rw [Tryd.ntmps26]; simp), ?_⟩
      intro vs esc hesc
      rw [Tryd.ntmps26, Tryd.results26]
      have e0 := hesc 1000 (by simp)
      have e1 := hesc 1001 (by simp)
      have F := And.intro actAV.eq_1 <| And.intro e0 <| And.intro e1 <| And.intro b1 <| And.intro hm <| And.intro h3 <| h4
      repeat refine st ?_
      (refine retI_end ?_ ?_ <;> simp only [go_sem, F, implies_true, and_self, imp_self, false_implies, AV.tuple.injEq, exists_eq_left', ne_eq])
    · rw [idxS_none hin] at hm
      have h4 : cntE (bump M a.name) = cntE M ++ [[Sg a.name, I 1]] := by
        unfold bump cntE
        rw [idxS_none hin]
        simp only [List.map_append]
        rfl
      have w1 : IntKind.i64.wrap (0 + 1) = 1 := rfl
      refine ⟨Tryd.call26, _, _, Tryd.func26, rfl, (by intro _; rw [Tryd.ntmps26]; simp), ?_⟩
      intro vs esc hesc
      rw [Tryd.ntmps26, Tryd.results26]
      have e0 := hesc 1000 (by simp)
      have e1 := hesc 1001 (by simp)
      have F := And.intro actAV.eq_1 <| And.intro e0 <| And.intro e1 <| And.intro b1 <| And.intro hm <| And.intro h4 <| w1
      repeat refine st ?_
      (refine retI_end ?_ ?_ <;> simp only [go_sem, F, implies_true, and_self, imp_self, false_implies, AV.tuple.injEq, exists_eq_left', ne_eq])
  · have b1 : (a.kind == 2) = false := by simpa using hk
    rw [if_neg hk]
    refine ⟨Tryd.call26, _, _, Tryd.func26, rfl, (by intro _; rw [Tryd.ntmps26]; simp), ?_⟩
    intro vs esc hesc
    rw [Tryd.ntmps26, Tryd.results26]
    have e0 := hesc 1000 (by simp)
    have e1 := hesc 1001 (by simp)
    have F := And.intro actAV.eq_1 <| And.intro e0 <| And.intro e1 <| b1
    repeat refine st ?_
    (refine retI_end ?_ ?_ <;> simp only [go_sem, F, implies_true, and_self, imp_self, false_implies, AV.tuple.injEq, exists_eq_left', ne_eq])
theorem tmAdd_con (env : Env) (M : List (List UInt8 × Int)) (a : ActD) (te : TypeId) : ConI Tryd.prog env 30 [1000, 1001] (fun _ => false) (fun vs => [.agg (actAV a), .loc 1000 (vs 1000) 0 0]) (fun vs => [(1000, ⟨1, [[.mp 1001 (vs 1001)]], te, false⟩), (1001, ⟨0, cntE M, 58, true⟩)]) (fun vs => [(1000, ⟨1, [[.mp 1001 (vs 1001)]], te, false⟩), (1001, ⟨0, cntE (if a.kind = 4 ∨ a.kind = 5 then bump M a.name else M), 58, true⟩)]) (fun _ => .lit (.tuple #[])) := by
  have hm := mfind_S a.name M 0
  by_cases hk : a.kind = 4 ∨ a.kind = 5
  · rw [if_pos hk]
    rcases hk with hk | hk
    · have b1 : (a.kind == 4) = true := by simp [hk]
      by_cases hin : a.name ∈ M.map (·.1)
      · obtain ⟨i, v, h1, h2⟩ := idxS_some (n := 0) hin
        rw [h1, Nat.zero_add] at hm
        have h3 : (cntE M)[i]? = some [Sg a.name, I v] := by unfold cntE; rw [List.getElem?_map, h2]; rfl
        have h4 : cntE (bump M a.name) = (cntE M).set i [Sg a.name, I (IntKind.i64.wrap (v + 1))] := by
          unfold bump cntE
          rw [h1, Nat.zero_add]
          simp only [h2, Option.map_some, Option.getD_some]
          rw [List.map_set]
        refine ⟨Tryd.call30, _, _, Tryd.func30, rfl, (by intro _; rw [Tryd.ntmps30]; simp), ?_⟩
        intro vs esc hesc
        rw [Tryd.ntmps30, Tryd.results30]
        have e0 := hesc 1000 (by simp)
        have e1 := hesc 1001 (by simp)
        have F := And.intro actAV.eq_1 <| And.intro e0 <| And.intro e1 <| And.intro b1 <| And.intro hm <| And.intro h3 <| h4
        repeat refine st ?_
        (refine retI_end ?_ ?_ <;> simp only [go_sem, F, implies_true, and_self, imp_self, false_implies, AV.tuple.injEq, exists_eq_left', ne_eq])
      · rw [idxS_none hin] at hm
        have h4 : cntE (bump M a.name) = cntE M ++ [[Sg a.name, I 1]] := by
          unfold bump cntE
          rw [idxS_none hin]
          simp only [List.map_append]
          rfl
        have w1 : IntKind.i64.wrap (0 + 1) = 1 := rfl
        refine ⟨Tryd.call30, _, _, Tryd.func30, rfl, (by intro _; rw [Tryd.ntmps30]; simp), ?_⟩
        intro vs esc hesc
        rw [Tryd.ntmps30, Tryd.results30]
        have e0 := hesc 1000 (by simp)
        have e1 := hesc 1001 (by simp)
        have F := And.intro actAV.eq_1 <| And.intro e0 <| And.intro e1 <| And.intro b1 <| And.intro hm <| And.intro h4 <| w1
        repeat refine st ?_
        (refine retI_end ?_ ?_ <;> simp only [go_sem, F, implies_true, and_self, imp_self, false_implies, AV.tuple.injEq, exists_eq_left', ne_eq])
    · have b1 : (a.kind == 4) = false := by simp [hk]
      have b2 : (a.kind == 5) = true := by simp [hk]
      by_cases hin : a.name ∈ M.map (·.1)
      · obtain ⟨i, v, h1, h2⟩ := idxS_some (n := 0) hin
        rw [h1, Nat.zero_add] at hm
        have h3 : (cntE M)[i]? = some [Sg a.name, I v] := by unfold cntE; rw [List.getElem?_map, h2]; rfl
        have h4 : cntE (bump M a.name) = (cntE M).set i [Sg a.name, I (IntKind.i64.wrap (v + 1))] := by
          unfold bump cntE
          rw [h1, Nat.zero_add]
          simp only [h2, Option.map_some, Option.getD_some]
          rw [List.map_set]
        refine ⟨Tryd.call30, _, _, Tryd.func30, rfl, (by intro _; rw [Tryd.ntmps30]; simp), ?_⟩
        intro vs esc hesc
        rw [Tryd.ntmps30, Tryd.results30]
        have e0 := hesc 1000 (by simp)
        have e1 := hesc 1001 (by simp)
        have F := And.intro actAV.eq_1 <| And.intro e0 <| And.intro e1 <| And.intro b1 <| And.intro b2 <| And.intro hm <| And.intro h3 <| h4
        repeat refine st ?_
        (refine retI_end ?_ ?_ <;> simp only [go_sem, F, implies_true, and_self, imp_self, false_implies, AV.tuple.injEq, exists_eq_left', ne_eq])
      · rw [idxS_none hin] at hm
        have h4 : cntE (bump M a.name) = cntE M ++ [[Sg a.name, I 1]] := by
          unfold bump cntE
          rw [idxS_none hin]
          simp only [List.map_append]
          rfl
        have w1 : IntKind.i64.wrap (0 + 1) = 1 := rfl
        refine ⟨Tryd.call30, _, _, Tryd.func30, rfl, (by intro _; rw [Tryd.ntmps30]; simp), ?_⟩
        intro vs esc hesc
        rw [Tryd.ntmps30, Tryd.results30]
        have e0 := hesc 1000 (by simp)
        have e1 := hesc 1001 (by simp)
        have F := And.intro actAV.eq_1 <| And.intro e0 <| And.intro e1 <| And.intro b1 <| And.intro b2 <| And.intro hm <| And.intro h4 <| w1
        repeat refine st ?_
        (refine retI_end ?_ ?_ <;> simp only [go_sem, F, implies_true, and_self, imp_self, false_implies, AV.tuple.injEq, exists_eq_left', ne_eq])
  · have b1 : (a.kind == 4) = false := by simpa using fun e => hk (.inl e)
    have b2 : (a.kind == 5) = false := by simpa using fun e => hk (.inr e)
    rw [if_neg hk]
    refine ⟨Tryd.call30, _, _, Tryd.func30, rfl, (by intro _; rw [Tryd.ntmps30]; simp), ?_⟩
    intro vs esc hesc
    rw [Tryd.ntmps30, Tryd.results30]
    have e0 := hesc 1000 (by simp)
    have e1 := hesc 1001 (by simp)
    have F := And.intro actAV.eq_1 <| And.intro e0 <| And.intro e1 <| And.intro b1 <| b2
    repeat refine st ?_
    (refine retI_end ?_ ?_ <;> simp only [go_sem, F, implies_true, and_self, imp_self, false_implies, AV.tuple.injEq, exists_eq_left', ne_eq])
/-- A closure that counts an action's name, if the action is of its kinds. -/
def Counts (env : Env) (G : FuncId) (step : List (List UInt8 × Int) → ActD → List (List UInt8 × Int)) : Prop := ∀ (M : List (List UInt8 × Int)) (a : ActD) (te : TypeId), ConI Tryd.prog env G [1000, 1001] (fun _ => false) (fun vs => [.agg (actAV a), .loc 1000 (vs 1000) 0 0]) (fun vs => [(1000, ⟨1, [[.mp 1001 (vs 1001)]], te, false⟩), (1001, ⟨0, cntE M, 58, true⟩)]) (fun vs => [(1000, ⟨1, [[.mp 1001 (vs 1001)]], te, false⟩), (1001, ⟨0, cntE (step M a), 58, true⟩)]) (fun _ => .lit (.tuple #[]))
theorem doAll_con (env : Env) (G : FuncId) (step : List (List UInt8 × Int) → ActD → List (List UInt8 × Int)) (hG : Counts env G step) (M : List (List UInt8 × Int)) (L : List ActD) (hL : L.length ≤ 1000000) (te tf : TypeId) : ConI Tryd.prog env 40 [1000, 1001, 1002] (fun _ => false) (fun vs => [actsAV L, .loc 1002 (vs 1002) 0 0])
    (fun vs => [(1000, ⟨1, [[.mp 1001 (vs 1001)]], te, false⟩), (1001, ⟨0, cntE M, 58, true⟩), (1002, ⟨1, [[.clo G [.loc 1000 (vs 1000) 0 0]]], tf, false⟩)])
    (fun vs => [(1000, ⟨1, [[.mp 1001 (vs 1001)]], te, false⟩), (1001, ⟨0, cntE (L.foldl step M), 58, true⟩), (1002, ⟨1, [[.clo G [.loc 1000 (vs 1000) 0 0]]], tf, false⟩)]) (fun _ => .lit (.tuple #[])) := by
  refine ⟨Tryd.call40, _, _, Tryd.func40, rfl, (by intro _; rw [Tryd.ntmps40]; simp), ?_⟩
  intro vs esc hesc
  rw [Tryd.ntmps40, Tryd.results40]
  have e0 := hesc 1000 (by simp)
  have e1 := hesc 1001 (by simp)
  have e2 := hesc 1002 (by simp)
  have F := And.intro e0 <| And.intro e1 <| e2
  repeat refine st ?_
  refine awp_loopH (D := Nat) (fun j vs => [(1, .loc 1002 (vs 1002) 0 0), (5, actsAV L), (6, I L.length), (7, I j)]) (fun j vs => [(1000, ⟨1, [[.mp 1001 (vs 1001)]], te, false⟩), (1001, ⟨0, cntE ((L.take j).foldl step M), 58, true⟩), (1002, ⟨1, [[.clo G [.loc 1000 (vs 1000) 0 0]]], tf, false⟩)]) (fun j g esc => j ≤ L.length ∧ esc 1000 = false ∧ esc 1001 = false ∧ esc 1002 = false ∧ g 1000 = vs 1000 ∧ g 1001 = vs 1001 ∧ g 1002 = vs 1002) (fun j => L.length - j) 0 ?_ ?_ ?_ ?_
  · exact ⟨Nat.zero_le _, by simp only [go_sem, e0], by simp only [go_sem, e1], by simp only [go_sem, e2], by simp only [go_sem], by simp only [go_sem], by simp only [go_sem]⟩
  · (simp only [go_sem, F])
    try rfl
  · (simp only [go_sem, F])
    try rfl
  try clear e0 e1 e2
  rintro j ws es ⟨hj, e0, e1, e2, v0, v1, v2⟩
  by_cases hlt : j < L.length
  · obtain ⟨a, ha⟩ : ∃ a, L[j]? = some a := ⟨L[j], List.getElem?_eq_getElem hlt⟩
    have q1 := nlt hlt
    have q2 := wrap_succ hlt (by omega)
    have hn : (L.take (j + 1)).foldl step M = step ((L.take j).foldl step M) a := by rw [List.take_add_one, ha, List.foldl_append]; rfl
    have fa := hG ((L.take j).foldl step M) a te
    generalize (L.take j).foldl step M = M1 at *
    unfold actAV at fa
    have F := And.intro actAV.eq_1 <| And.intro ha <| And.intro q1 <| And.intro q2 <| And.intro e0 <| And.intro e1 <| e2
    repeat refine st ?_
    refine aops_inl [(1000, 1000), (1001, 1001)] (callOf_clo rfl (by simp only [go_sem, F]; exact iR)) (fa) (by decide) (by decide) (by simp only [go_sem, F] <;> rfl) (by simp only [go_sem, F, and_self] <;> trivial) (by simp only [go_sem, F, and_self] <;> trivial) (by intro o; simp only [go_sem, F, behind, and_self] <;> trivial) (by intro o; simp only [go_sem, F] <;> rfl) (by simp only [go_sem, F, behind]; exact iR) (by simp only [go_sem, F, behind]; exact iR) ?_
    repeat refine st ?_
    refine ⟨j + 1, ⟨hlt, by simp only [go_sem, e0], by simp only [go_sem, e1], by simp only [go_sem, e2], by simp only [go_sem, v0], by simp only [go_sem, v1], by simp only [go_sem, v2]⟩, ?_, ?_, by omega⟩
    · (simp only [go_sem, F])
    · have F := hn
      (simp only [go_sem, F])
  · obtain rfl : j = L.length := by omega
    have q1 : ¬ (L.length : Int) < (L.length : Int) := by omega
    rw [List.take_length]
    have F := And.intro q1 <| And.intro e0 <| And.intro e1 <| And.intro e2 <| And.intro v0 <| And.intro v1 <| v2
    repeat refine st ?_
    (refine retI_end ?_ ?_ <;> simp only [go_sem, F, implies_true, and_self, imp_self, false_implies, AV.tuple.injEq, exists_eq_left', ne_eq])
def stStep (step : List (List UInt8 × Int) → ActD → List (List UInt8 × Int)) (M : List (List UInt8 × Int)) (s : StD) : List (List UInt8 × Int) := s.out.foldl step (s.inn.foldl step M)
def trStep (step : List (List UInt8 × Int) → ActD → List (List UInt8 × Int)) (M : List (List UInt8 × Int)) (t : TrD) : List (List UInt8 × Int) := t.acts.foldl step M
def allC (step : List (List UInt8 × Int) → ActD → List (List UInt8 × Int)) (c : ChD) (M : List (List UInt8 × Int)) : List (List UInt8 × Int) := c.trans.foldl (trStep step) (c.states.foldl (stStep step) M)
theorem all_con (env : Env) (G : FuncId) (step : List (List UInt8 × Int) → ActD → List (List UInt8 × Int)) (hG : Counts env G step) (M : List (List UInt8 × Int)) (c : ChD) (hs : c.states.length ≤ 1000000) (ht : c.trans.length ≤ 1000000) (hS : ∀ s ∈ c.states, s.inn.length ≤ 1000000 ∧ s.out.length ≤ 1000000) (hT : ∀ t ∈ c.trans, t.acts.length ≤ 1000000) (te : TypeId) :
    ConI Tryd.prog env 25 [1000, 1001] (fun _ => false) (fun vs => [.agg (chAV c), .clo G [.loc 1000 (vs 1000) 0 0]])
    (fun vs => [(1000, ⟨1, [[.mp 1001 (vs 1001)]], te, false⟩), (1001, ⟨0, cntE M, 58, true⟩)]) (fun vs => [(1000, ⟨1, [[.mp 1001 (vs 1001)]], te, false⟩), (1001, ⟨0, cntE (allC step c M), 58, true⟩)]) (fun _ => .lit (.tuple #[])) := by
  refine ⟨Tryd.call25, _, _, Tryd.func25, rfl, (by intro _; rw [Tryd.ntmps25]; simp), ?_⟩
  intro vs esc hesc
  rw [Tryd.ntmps25, Tryd.results25]
  have e0 := hesc 1000 (by simp)
  have e1 := hesc 1001 (by simp)
  have F := And.intro chAV.eq_1 <| And.intro e0 <| e1
  repeat refine st ?_
  refine awp_loopH (D := Nat) (fun j vs => [(2, .loc 2 (vs 2) 0 0), (4, .clo 40 [.loc 3 (vs 3) 0 0]), (11, stsAV c.states), (12, I c.states.length), (13, I j)]) (fun j vs => [(2, ⟨5, [chAV c], 26, false⟩), (3, ⟨1, [[.clo G [.loc 1000 (vs 1000) 0 0]]], 60, false⟩), (1000, ⟨1, [[.mp 1001 (vs 1001)]], te, false⟩), (1001, ⟨0, cntE ((c.states.take j).foldl (stStep step) M), 58, true⟩)]) (fun j g esc => j ≤ c.states.length ∧ esc 1000 = false ∧ esc 1001 = false ∧ esc 3 = false ∧ g 1000 = vs 1000 ∧ g 1001 = vs 1001) (fun j => c.states.length - j) 0 ?_ ?_ ?_ ?_
  · exact ⟨Nat.zero_le _, by simp only [go_sem, e0], by simp only [go_sem, e1], by simp only [go_sem], by simp only [go_sem], by simp only [go_sem]⟩
  · (simp only [go_sem, F])
    try rfl
  · have F := chAV.eq_1
    (simp only [go_sem, F])
    try rfl
  try clear e0 e1
  rintro j ws es ⟨hj, e0, e1, e2, v0, v1⟩
  by_cases hlt : j < c.states.length
  · obtain ⟨s, hx⟩ : ∃ x, c.states[j]? = some x := ⟨c.states[j], List.getElem?_eq_getElem hlt⟩
    have q1 := nlt hlt
    have q2 := wrap_succ hlt (by omega)
    have hn : (c.states.take (j + 1)).foldl (stStep step) M = stStep step ((c.states.take j).foldl (stStep step) M) s := by rw [List.take_add_one, hx, List.foldl_append]; rfl
    have hf := hS s (List.mem_of_getElem? hx)
    generalize (c.states.take j).foldl (stStep step) M = M1 at *
    have fa := doAll_con env G step hG M1 s.inn hf.1 te 60
    have fb := doAll_con env G step hG (s.inn.foldl step M1) s.out hf.2 te 60
    have hn : (c.states.take (j + 1)).foldl (stStep step) M = s.out.foldl step (s.inn.foldl step M1) := hn
    have F := And.intro stAV.eq_1 <| And.intro hx <| And.intro q1 <| And.intro q2 <| And.intro e0 <| And.intro e1 <| And.intro e2 <| And.intro v0 <| v1
    repeat refine st ?_
    refine aops_inl [(1000, 1000), (1001, 1001), (1002, 3)] (callOf_clo rfl (by simp only [go_sem, F]; exact iR)) (fa) (by decide) (by decide) (by simp only [go_sem, F] <;> rfl) (by simp only [go_sem, F, and_self] <;> trivial) (by simp only [go_sem, F, and_self] <;> trivial) (by intro o; simp only [go_sem, F, behind, and_self] <;> trivial) (by intro o; simp only [go_sem, F] <;> rfl) (by simp only [go_sem, F, behind]; exact iR) (by simp only [go_sem, F, behind]; exact iR) ?_
    repeat refine st ?_
    refine aops_inl [(1000, 1000), (1001, 1001), (1002, 3)] (callOf_clo rfl (by simp only [go_sem, F]; exact iR)) (fb) (by decide) (by decide) (by simp only [go_sem, F] <;> rfl) (by simp only [go_sem, F, and_self] <;> trivial) (by simp only [go_sem, F, and_self] <;> trivial) (by intro o; simp only [go_sem, F, behind, and_self] <;> trivial) (by intro o; simp only [go_sem, F] <;> rfl) (by simp only [go_sem, F, behind]; exact iR) (by simp only [go_sem, F, behind]; exact iR) ?_
    repeat refine st ?_
    refine ⟨j + 1, ⟨hlt, by simp only [go_sem, e0], by simp only [go_sem, e1], by simp only [go_sem, e2], by simp only [go_sem, v0], by simp only [go_sem, v1]⟩, ?_, ?_, by omega⟩
    · (simp only [go_sem, F])
    · have F := And.intro hn <| And.intro chAV.eq_1 <| And.intro v0 <| v1
      (simp only [go_sem, F])
  · obtain rfl : j = c.states.length := by omega
    have q1 : ¬ (c.states.length : Int) < (c.states.length : Int) := by omega
    rw [List.take_length]
    have hall : allC step c M = (c.trans.take c.trans.length).foldl (trStep step) (c.states.foldl (stStep step) M) := by rw [List.take_length]; rfl
    rw [hall]
    generalize c.states.foldl (stStep step) M = M0 at *
    have F := And.intro chAV.eq_1 <| And.intro q1 <| And.intro e0 <| And.intro e1 <| And.intro e2 <| And.intro v0 <| v1
    repeat refine st ?_
    refine awp_loopH (D := Nat) (fun j vs => [(2, .loc 2 (vs 2) 0 0), (4, .clo 40 [.loc 3 (vs 3) 0 0]), (27, trsAV c.trans), (28, I c.trans.length), (29, I j)]) (fun j vs => [(2, ⟨5, [chAV c], 26, false⟩), (3, ⟨1, [[.clo G [.loc 1000 (vs 1000) 0 0]]], 60, false⟩), (1000, ⟨1, [[.mp 1001 (vs 1001)]], te, false⟩), (1001, ⟨0, cntE ((c.trans.take j).foldl (trStep step) M0), 58, true⟩)]) (fun j g esc => j ≤ c.trans.length ∧ esc 1000 = false ∧ esc 1001 = false ∧ esc 3 = false ∧ g 1000 = vs 1000 ∧ g 1001 = vs 1001) (fun j => c.trans.length - j) 0 ?_ ?_ ?_ ?_
    · exact ⟨Nat.zero_le _, by simp only [go_sem, e0], by simp only [go_sem, e1], by simp only [go_sem, e2], by simp only [go_sem, v0], by simp only [go_sem, v1]⟩
    · (simp only [go_sem, F])
      try rfl
    · have F := And.intro chAV.eq_1 <| And.intro v0 <| v1
      (simp only [go_sem, F])
      try rfl
    try clear e0 e1 e2 v0 v1
    rintro j ws es ⟨hj, e0, e1, e2, v0, v1⟩
    by_cases hlt : j < c.trans.length
    · obtain ⟨t, hx⟩ : ∃ x, c.trans[j]? = some x := ⟨c.trans[j], List.getElem?_eq_getElem hlt⟩
      have q1 := nlt hlt
      have q2 := wrap_succ hlt (by omega)
      have hn : (c.trans.take (j + 1)).foldl (trStep step) M0 = trStep step ((c.trans.take j).foldl (trStep step) M0) t := by rw [List.take_add_one, hx, List.foldl_append]; rfl
      have hf := hT t (List.mem_of_getElem? hx)
      generalize (c.trans.take j).foldl (trStep step) M0 = M1 at *
      have fa := doAll_con env G step hG M1 t.acts hf te 60
      have hn : (c.trans.take (j + 1)).foldl (trStep step) M0 = t.acts.foldl step M1 := hn
      have F := And.intro trAV.eq_1 <| And.intro hx <| And.intro q1 <| And.intro q2 <| And.intro e0 <| And.intro e1 <| And.intro e2 <| And.intro v0 <| v1
      repeat refine st ?_
      refine aops_inl [(1000, 1000), (1001, 1001), (1002, 3)] (callOf_clo rfl (by simp only [go_sem, F]; exact iR)) (fa) (by decide) (by decide) (by simp only [go_sem, F] <;> rfl) (by simp only [go_sem, F, and_self] <;> trivial) (by simp only [go_sem, F, and_self] <;> trivial) (by intro o; simp only [go_sem, F, behind, and_self] <;> trivial) (by intro o; simp only [go_sem, F] <;> rfl) (by simp only [go_sem, F, behind]; exact iR) (by simp only [go_sem, F, behind]; exact iR) ?_
      repeat refine st ?_
      refine ⟨j + 1, ⟨hlt, by simp only [go_sem, e0], by simp only [go_sem, e1], by simp only [go_sem, e2], by simp only [go_sem, v0], by simp only [go_sem, v1]⟩, ?_, ?_, by omega⟩
      · (simp only [go_sem, F])
      · have F := And.intro hn <| And.intro chAV.eq_1 <| And.intro v0 <| v1
        (simp only [go_sem, F])
    · obtain rfl : j = c.trans.length := by omega
      have q1 : ¬ (c.trans.length : Int) < (c.trans.length : Int) := by omega
      have F := And.intro q1 <| And.intro e0 <| And.intro e1 <| And.intro e2 <| And.intro v0 <| v1
      repeat refine st ?_
      (refine retI_end ?_ ?_ <;> simp only [go_sem, F, implies_true, and_self, imp_self, false_implies, AV.tuple.injEq, exists_eq_left', ne_eq])
end Go.Proofs.YtaonccobohiiiaaDoor
