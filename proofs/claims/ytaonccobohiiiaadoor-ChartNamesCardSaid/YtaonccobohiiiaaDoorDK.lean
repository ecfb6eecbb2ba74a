import Derived.Test.YtaonccobohiiiaaDoorCX
import Derived.Test.YtaonccobohiiiaaDoorEvi
import Derived.Test.YtaonccobohiiiaaDoorSt
import Derived.Test.YtaonccobohiiiaaDoorCY
import Derived.Test.YtaonccobohiiiaaDoorI2
import Derived.Test.YtaonccobohiiiaaDoorVT
import Derived.Test.YtaonccobohiiiaaDoorHE
import Derived.Test.YtaonccobohiiiaaDoorWE1
/- chart.Events, chart.Timers: the names, in order. -/
set_option linter.unusedSimpArgs false
namespace Go.Proofs.YtaonccobohiiiaaDoor
open Go.RowKit
set_option maxRecDepth 100000
set_option maxHeartbeats 16000000

theorem cnt_zip (M : List (List UInt8 × Int)) : cntE M = ((M.map (·.1)).zip (M.map (·.2))).map fun p => [AV.lit (.string ⟨p.1.toArray⟩), AV.lit (.int .i64 p.2)] := by
  have : (M.map (·.1)).zip (M.map (·.2)) = M := by
    induction M with
    | nil => rfl
    | cons a l ih => rw [List.map_cons, List.map_cons, List.zip_cons_cons, ih]
  rw [this]
  rfl
def evStep (M : List (List UInt8 × Int)) (a : ActD) : List (List UInt8 × Int) := if a.kind = 2 then bump M a.name else M
def tmStep (M : List (List UInt8 × Int)) (a : ActD) : List (List UInt8 × Int) := if a.kind = 4 ∨ a.kind = 5 then bump M a.name else M
def evTr (M : List (List UInt8 × Int)) (t : TrD) : List (List UInt8 × Int) := if t.event = [] then M else bump M t.event
def evM (c : ChD) : List (List UInt8 × Int) := allC evStep c (c.trans.foldl evTr [])
def tmM (c : ChD) : List (List UInt8 × Int) := allC tmStep c []
def namesOf (M : List (List UInt8 × Int)) : List (List UInt8) := (M.map (·.1)).mergeSort leB
theorem timers_con (env : Env) (hsort : KeysIn Tryd.prog 27 9) (c : ChD) (hs : c.states.length ≤ 1000000) (ht : c.trans.length ≤ 1000000) (hS : ∀ s ∈ c.states, s.inn.length ≤ 1000000 ∧ s.out.length ≤ 1000000) (hT : ∀ t ∈ c.trans, t.acts.length ≤ 1000000) (hnd : ((tmM c).map (·.1)).Nodup) (hl : ((tmM c).map (·.1)).length ≤ 1000000) (hk : ∀ k ∈ (tmM c).map (·.1), k.length ≤ maxLen) :
    Con Tryd.prog env 13 [.agg (chAV c)] (.own 9 1 ((namesOf (tmM c)).map fun k => [Sg k])) := by
  have fa := all_con env 30 tmStep (fun M a te => tmAdd_con env M a te) [] c hs ht hS hT 58
  have hz := cnt_zip (tmM c)
  rw [show allC tmStep c [] = tmM c from rfl] at fa
  unfold namesOf
  generalize tmM c = M at *
  unfold chAV at fa
  have hE : cntE [] = [] := rfl
  rw [hE] at fa
  refine con_of_body Tryd.func13 rfl Tryd.call13 (by rw [Tryd.ntmps13]; simp) ?_
  rw [Tryd.ntmps13, Tryd.results13]
  have F := chAV.eq_1
  repeat refine st ?_
  refine aops_inl [(1000, 3), (1001, 4)] rfl (fa) (by decide) (by decide) (by simp only [go_sem, F] <;> rfl) (by simp only [go_sem, F, and_self] <;> trivial) (by simp only [go_sem, F, and_self] <;> trivial) (by intro o; simp only [go_sem, F, behind, and_self] <;> trivial) (by intro o; simp only [go_sem, F] <;> rfl) (by simp only [go_sem, F, behind]; exact iR) (by simp only [go_sem, F, behind]; exact iR) ?_
  repeat refine st ?_
  refine aops_keys 4 9 ⟨0, cntE M, 58, true⟩ (M.map (·.1)) (M.map (·.2)) rfl hsort rfl rfl hz (by simp) hnd hl hk (by simp only [go_sem]; exact iR) (by simp only [go_sem]; exact iR) (by simp only [go_sem]; exact iR) (by simp only [go_sem]; exact iR) (by simp only [go_sem]; exact iR) iR ?_
  repeat refine st ?_
  exact aR
theorem events24_con (env : Env) (hsort : KeysIn Tryd.prog 27 9) (c : ChD) (hs : c.states.length ≤ 1000000) (ht : c.trans.length ≤ 1000000) (hS : ∀ s ∈ c.states, s.inn.length ≤ 1000000 ∧ s.out.length ≤ 1000000) (hT : ∀ t ∈ c.trans, t.acts.length ≤ 1000000) (hnd : ((evM c).map (·.1)).Nodup) (hl : ((evM c).map (·.1)).length ≤ 1000000) (hk : ∀ k ∈ (evM c).map (·.1), k.length ≤ maxLen) :
    Con Tryd.prog env 11 [.agg (chAV c)] (.own 9 1 ((namesOf (evM c)).map fun k => [Sg k])) := by
  have fa := all_con env 26 evStep (fun M a te => evAdd_con env M a te) (c.trans.foldl evTr []) c hs ht hS hT 58
  have hz := cnt_zip (evM c)
  rw [show allC evStep c (c.trans.foldl evTr []) = evM c from rfl] at fa
  unfold namesOf
  generalize evM c = M at *
  unfold chAV at fa
  refine con_of_body Tryd.func11 rfl Tryd.call11 (by rw [Tryd.ntmps11]; simp) ?_
  rw [Tryd.ntmps11, Tryd.results11]
  have F := chAV.eq_1
  repeat refine st ?_
  refine awp_loopH (D := Nat) (fun j vs => [(1, .loc 1 (vs 1) 0 0), (3, .loc 3 (vs 3) 0 0), (8, trsAV c.trans), (9, I c.trans.length), (10, I j)]) (fun j vs => [(1, ⟨5, [chAV c], 26, false⟩), (3, ⟨1, [[.mp 6 (vs 6)]], 58, false⟩), (6, ⟨0, cntE ((c.trans.take j).foldl evTr []), 58, true⟩)]) (fun j _ esc => j ≤ c.trans.length ∧ esc 3 = false ∧ esc 6 = false ∧ esc 27 = false) (fun j => c.trans.length - j) 0 ?_ ?_ ?_ ?_
  · exact ⟨Nat.zero_le _, by simp only [go_sem], by simp only [go_sem], by simp only [go_sem]⟩
  · (simp only [go_sem, F])
    try rfl
  · have F := chAV.eq_1
    (simp only [go_sem, F])
    try rfl
  rintro j ws esc ⟨hj, e0, e1, e2⟩
  by_cases hlt : j < c.trans.length
  · obtain ⟨t, hx⟩ : ∃ t, c.trans[j]? = some t := ⟨c.trans[j], List.getElem?_eq_getElem hlt⟩
    have q1 := nlt hlt
    have q2 := wrap_succ hlt (by omega)
    have hn : (c.trans.take (j + 1)).foldl evTr [] = evTr ((c.trans.take j).foldl evTr []) t := by rw [List.take_add_one, hx, List.foldl_append]; rfl
    generalize (c.trans.take j).foldl evTr [] = M1 at *
    have hm := mfind_S t.event M1 0
    have hev : evTr M1 t = if t.event = [] then M1 else bump M1 t.event := rfl
    rw [hev] at hn
    by_cases he : t.event = []
    · have b1 : (t.event == []) = true := by simp [he]
      rw [if_pos he] at hn
      have F := And.intro trAV.eq_1 <| And.intro hx <| And.intro q1 <| And.intro q2 <| And.intro b1 <| And.intro e0 <| And.intro e1 <| e2
      repeat refine st ?_
      refine ⟨j + 1, ⟨hlt, by simp only [go_sem, e0], by simp only [go_sem, e1], by simp only [go_sem, e2]⟩, ?_, ?_, by omega⟩
      · (simp only [go_sem, F])
      · have F := And.intro hn <| chAV.eq_1
        (simp only [go_sem, F])
    have b1 : (t.event == []) = false := by simpa using he
    rw [if_neg he] at hn
    by_cases hin : t.event ∈ M1.map (·.1)
    · skip
      obtain ⟨i, v, h1, h2⟩ := idxS_some (n := 0) hin
      rw [h1, Nat.zero_add] at hm
      have h3 : (cntE M1)[i]? = some [Sg t.event, I v] := by unfold cntE; rw [List.getElem?_map, h2]; rfl
      have h4 : cntE (bump M1 t.event) = (cntE M1).set i [Sg t.event, I (IntKind.i64.wrap (v + 1))] := by
        unfold bump cntE
        rw [h1, Nat.zero_add]
        simp only [h2, Option.map_some, Option.getD_some]
        rw [List.map_set]
      have F := And.intro trAV.eq_1 <| And.intro hx <| And.intro q1 <| And.intro q2 <| And.intro b1 <| And.intro e0 <| And.intro e1 <| And.intro e2 <| And.intro hm <| h3
      repeat refine st ?_
      refine ⟨j + 1, ⟨hlt, by simp only [go_sem, e0], by simp only [go_sem, e1], by simp only [go_sem, e2]⟩, ?_, ?_, by omega⟩
      · (simp only [go_sem, F])
      · have F := And.intro hn <| And.intro h4 <| chAV.eq_1
        (simp only [go_sem, F])
    · skip
      rw [idxS_none hin] at hm
      have h4 : cntE (bump M1 t.event) = cntE M1 ++ [[Sg t.event, I 1]] := by
        unfold bump cntE
        rw [idxS_none hin]
        simp only [List.map_append]
        rfl
      have w1 : IntKind.i64.wrap (0 + 1) = 1 := rfl
      have F := And.intro trAV.eq_1 <| And.intro hx <| And.intro q1 <| And.intro q2 <| And.intro b1 <| And.intro e0 <| And.intro e1 <| And.intro e2 <| And.intro hm <| w1
      repeat refine st ?_
      refine ⟨j + 1, ⟨hlt, by simp only [go_sem, e0], by simp only [go_sem, e1], by simp only [go_sem, e2]⟩, ?_, ?_, by omega⟩
      · (simp only [go_sem, F])
      · have F := And.intro hn <| And.intro h4 <| chAV.eq_1
        (simp only [go_sem, F])
  · obtain rfl : j = c.trans.length := by omega
    have q1 : ¬ (c.trans.length : Int) < (c.trans.length : Int) := by omega
    rw [List.take_length]
    generalize c.trans.foldl evTr [] = M1 at *
    have F := And.intro chAV.eq_1 <| And.intro q1 <| And.intro e0 <| And.intro e1 <| e2
    repeat refine st ?_
    refine aops_inl [(1000, 3), (1001, 6)] rfl (fa) (by decide) (by decide) (by simp only [go_sem, F] <;> rfl) (by simp only [go_sem, F, and_self] <;> trivial) (by simp only [go_sem, F, and_self] <;> trivial) (by intro o; simp only [go_sem, F, behind, and_self] <;> trivial) (by intro o; simp only [go_sem, F] <;> rfl) (by simp only [go_sem, F, behind]; exact iR) (by simp only [go_sem, F, behind]; exact iR) ?_
    repeat refine st ?_
    refine aops_keys 6 27 ⟨0, cntE M, 58, true⟩ (M.map (·.1)) (M.map (·.2)) rfl hsort rfl rfl hz (by simp) hnd hl hk (by simp only [go_sem, F]; exact iR) (by simp only [go_sem, F]; exact iR) (by simp only [go_sem, F]; exact iR) (by simp only [go_sem, F]; exact iR) (by simp only [go_sem, F]; exact iR) iR ?_
    repeat refine st ?_
    exact aR
end Go.Proofs.YtaonccobohiiiaaDoor
/- The document's actions of a chart, all together. -/
set_option linter.unusedSimpArgs false
namespace Go.Proofs.YtaonccobohiiiaaDoor
open Go.RowKit
set_option maxRecDepth 100000
set_option maxHeartbeats 16000000

/-- Has a chart few parts? -/
structure Light (c : ChD) : Prop where
  st : c.states.length ≤ 60
  tr : c.trans.length ≤ 90
  acts : ∀ s ∈ c.states, s.inn.length ≤ 50 ∧ s.out.length ≤ 50
  tacts : ∀ t ∈ c.trans, t.acts.length ≤ 50
def stA (c : ChD) (j : Nat) : List ActD := (c.states.take j).flatMap fun s => s.inn ++ s.out
def trA (c : ChD) (j : Nat) : List ActD := (c.trans.take j).flatMap fun t => t.acts
def allA (c : ChD) : List ActD := stA c c.states.length ++ trA c c.trans.length
theorem stA_next {c : ChD} {j : Nat} {s : StD} (h : c.states[j]? = some s) : stA c (j + 1) = stA c j ++ s.inn ++ s.out := by
  unfold stA
  rw [List.take_add_one, h, List.flatMap_append, List.append_assoc]
  simp
theorem trA_next {c : ChD} {j : Nat} {t : TrD} (h : c.trans[j]? = some t) : trA c (j + 1) = trA c j ++ t.acts := by
  unfold trA
  rw [List.take_add_one, h, List.flatMap_append]
  simp
theorem stA_len {c : ChD} (h : Light c) : ∀ j, (stA c j).length ≤ 100 * j
  | 0 => by simp [stA]
  | j + 1 => by
    have ih := stA_len h j
    cases hx : c.states[j]? with
    | none =>
      have : stA c (j + 1) = stA c j := by unfold stA; rw [List.take_add_one, hx]; simp
      rw [this]; omega
    | some s =>
      have := h.acts s (List.mem_of_getElem? hx)
      rw [stA_next hx, List.length_append, List.length_append]
      omega
theorem trA_len {c : ChD} (h : Light c) : ∀ j, (trA c j).length ≤ 50 * j
  | 0 => by simp [trA]
  | j + 1 => by
    have ih := trA_len h j
    cases hx : c.trans[j]? with
    | none =>
      have : trA c (j + 1) = trA c j := by unfold trA; rw [List.take_add_one, hx]; simp
      rw [this]; omega
    | some t =>
      have := h.tacts t (List.mem_of_getElem? hx)
      rw [trA_next hx, List.length_append]
      omega
theorem rAll_con (env : Env) (c : ChD) (h : Light c) : Con Tryd.prog env 29 [.agg (chAV c)] (.own 35 4 ((allA c).map actAV)) := by
  have hs := h.st
  have ht := h.tr
  refine con_of_body Tryd.func29 rfl Tryd.call29 (by rw [Tryd.ntmps29]; simp) ?_
  rw [Tryd.ntmps29, Tryd.results29]
  have F := chAV.eq_1
  repeat refine st ?_
  refine awp_loopH (D := Nat) (fun j vs => [(1, .loc 1 (vs 1) 0 0), (3, .row 6 (vs 6)), (4, I j)]) (fun j _ => [(1, ⟨5, [chAV c], 26, false⟩), (6, ⟨4, (stA c j).map actAV, 35, true⟩)]) (fun j _ esc => j ≤ c.states.length ∧ esc 6 = false) (fun j => c.states.length - j) 0 ?_ ?_ ?_ ?_
  · exact ⟨Nat.zero_le _, by simp only [go_sem]⟩
  · (simp only [go_sem, F])
    try rfl
  · have F := chAV.eq_1
    (simp only [go_sem, F])
    try rfl
  rintro j ws esc ⟨hj, e0⟩
  have hl := stA_len h j
  by_cases hlt : j < c.states.length
  · obtain ⟨s, hx⟩ : ∃ s, c.states[j]? = some s := ⟨c.states[j], List.getElem?_eq_getElem hlt⟩
    have q1 := nlt hlt
    have q2 := wrap_succ hlt (by omega)
    have hn := stA_next hx
    have hb := h.acts s (List.mem_of_getElem? hx)
    have hf1 : Fits ((stA c j).length + s.inn.length) 56 := ⟨by omega, by omega⟩
    have hf2 : Fits ((stA c j).length + s.inn.length + s.out.length) 56 := ⟨by omega, by omega⟩
    generalize stA c j = A at *
    have F := And.intro chAV.eq_1 <| And.intro stAV.eq_1 <| And.intro hx <| And.intro q1 <| And.intro q2 <| And.intro e0 <| And.intro hf1 <| hf2
    repeat refine st ?_
    refine ⟨j + 1, ⟨hlt, by simp only [go_sem, e0]⟩, ?_, ?_, by omega⟩
    · (simp only [go_sem, F])
    · have F := And.intro hn <| chAV.eq_1
      (simp only [go_sem, List.map_append, F])
  obtain rfl : j = c.states.length := by omega
  have q1 : ¬ (c.states.length : Int) < (c.states.length : Int) := by omega
  unfold allA
  generalize stA c c.states.length = A at *
  have F := And.intro chAV.eq_1 <| And.intro q1 <| e0
  repeat refine st ?_
  refine awp_loopH (D := Nat) (fun j vs => [(1, .loc 1 (vs 1) 0 0), (3, .row 6 (vs 6)), (5, I j)]) (fun j _ => [(1, ⟨5, [chAV c], 26, false⟩), (6, ⟨4, (A ++ trA c j).map actAV, 35, true⟩)]) (fun j _ esc => j ≤ c.trans.length ∧ esc 6 = false) (fun j => c.trans.length - j) 0 ?_ ?_ ?_ ?_
  · exact ⟨Nat.zero_le _, by simp only [go_sem, e0]⟩
  · (simp only [go_sem, F])
    try rfl
  · rw [show trA c 0 = [] from rfl, List.append_nil]
    have F := chAV.eq_1
    (simp only [go_sem, F])
    try rfl
  try clear hlt hj e0 q1
  rintro j ws esc ⟨hj, e0⟩
  have hl2 := trA_len h j
  by_cases hlt : j < c.trans.length
  · obtain ⟨t, hx⟩ : ∃ t, c.trans[j]? = some t := ⟨c.trans[j], List.getElem?_eq_getElem hlt⟩
    have q1 := nlt hlt
    have q2 := wrap_succ hlt (by omega)
    have hn : A ++ trA c (j + 1) = A ++ trA c j ++ t.acts := by rw [trA_next hx, List.append_assoc]
    have hb := h.tacts t (List.mem_of_getElem? hx)
    have hAl : (A ++ trA c j).length = A.length + (trA c j).length := List.length_append
    have hf1 : Fits ((A ++ trA c j).length + t.acts.length) 56 := ⟨by omega, by omega⟩
    generalize A ++ trA c j = B at *
    have F := And.intro chAV.eq_1 <| And.intro trAV.eq_1 <| And.intro hx <| And.intro q1 <| And.intro q2 <| And.intro e0 <| hf1
    repeat refine st ?_
    refine ⟨j + 1, ⟨hlt, by simp only [go_sem, e0]⟩, ?_, ?_, by omega⟩
    · (simp only [go_sem, F])
    · have F := And.intro hn <| chAV.eq_1
      (simp only [go_sem, List.map_append, F])
  · obtain rfl : j = c.trans.length := by omega
    have q1 : ¬ (c.trans.length : Int) < (c.trans.length : Int) := by omega
    have F := And.intro chAV.eq_1 <| And.intro q1 <| e0
    repeat refine st ?_
    exact aR
end Go.Proofs.YtaonccobohiiiaaDoor
/- A text among rising ones: the document's put. -/
set_option linter.unusedSimpArgs false
namespace Go.Proofs.YtaonccobohiiiaaDoor
open Go.RowKit
set_option maxRecDepth 100000
set_option maxHeartbeats 8000000

abbrev Str8 := List UInt8
abbrev SL (a b : Str8) : Prop := Op.bytesLess a b = true
/-! Texts in the order of bytes -/
theorem bl_lt : ∀ (x y : Str8), Op.bytesLess x y = decide (x < y)
  | [], [] => by simp [Op.bytesLess]
  | _ :: _, [] => by simp [Op.bytesLess]
  | [], _ :: _ => by simp [Op.bytesLess]
  | a :: x, b :: y => by
    rw [Op.bytesLess, bl_lt x y]
    simp only [List.cons_lt_cons_iff]
    by_cases h1 : a < b <;> by_cases h2 : a = b <;> by_cases h3 : x < y <;> simp [h1, h2, h3]
theorem bl_le (x y : Str8) : decide (x ≤ y) = !Op.bytesLess y x := by
  rw [bl_lt, ← decide_not]
  rfl
theorem bl_ge_trans {a b c : Str8} (h1 : Op.bytesLess b a = false) (h2 : Op.bytesLess c b = false) : Op.bytesLess c a = false := by
  cases k : Op.bytesLess c a
  · rfl
  · cases k3 : Op.bytesLess a b
    · rw [← bl_total k3 h1, k] at h2; cases h2
    · rw [bl_trans k k3] at h2; cases h2
def strAV (s : List UInt8) : List AV := [Sg s]
theorem leB_le (l : List Str8) : (l.mergeSort leB).Pairwise fun a b => Op.bytesLess b a = false := by
  have := List.pairwise_mergeSort (le := leB) (fun a b c hab hbc => by
      simp only [leB, bl_le, Bool.not_eq_true'] at *
      exact bl_ge_trans hab hbc) (fun a b => by
      simp only [leB, bl_le]
      cases k : Op.bytesLess b a
      · simp
      · rw [bl_asymm k]; simp) l
  exact this.imp fun {a b} h => by simpa [leB, bl_le] using h
/-- A text among rising ones. -/
def putStep (s : Str8) (a : List Str8 × Bool) (x : Str8) : List Str8 × Bool :=
  ((if (!a.2 && !Op.bytesLess x s) = true then (if (!(Op.bytesLess x s || x == s)) = true then a.1 ++ [s] else a.1) else a.1) ++ [x], a.2 || !Op.bytesLess x s)
def putTo (l : List Str8) (s : Str8) (j : Nat) : List Str8 × Bool := (l.take j).foldl (putStep s) ([], false)
def putB (l : List Str8) (s : Str8) : List Str8 := if (putTo l s l.length).2 = true then (putTo l s l.length).1 else (putTo l s l.length).1 ++ [s]
theorem putTo_next {l : List Str8} {s x : Str8} {j : Nat} (h : l[j]? = some x) : putTo l s (j + 1) = putStep s (putTo l s j) x := by
  unfold putTo
  rw [List.take_add_one, h, List.foldl_append]
  rfl
theorem putTo_len (l : List Str8) (s : Str8) : ∀ j, (putTo l s j).1.length ≤ 2 * j
  | 0 => by simp [putTo]
  | j + 1 => by
    have ih := putTo_len l s j
    cases h : l[j]? with
    | none =>
      have hl := List.getElem?_eq_none_iff.1 h
      have : putTo l s (j + 1) = putTo l s j := by unfold putTo; rw [List.take_of_length_le (by omega), List.take_of_length_le (by omega)]
      rw [this]; omega
    | some x =>
      rw [putTo_next h]
      unfold putStep
      simp only [List.length_append, List.length_singleton]
      split
      · split
        · rw [List.length_append, List.length_singleton]; omega
        · omega
      · omega
theorem putTo_of {l : List Str8} {s : Str8} (hl : l.Pairwise SL) : ∀ j, j ≤ l.length → ((putTo l s j).2 = false → (putTo l s j).1 = l.take j ∧ ∀ x ∈ l.take j, SL x s) ∧
    ((putTo l s j).2 = true → (putTo l s j).1.Pairwise SL ∧ (∀ x, x ∈ (putTo l s j).1 ↔ x ∈ l.take j ∨ x = s) ∧ ∃ y ∈ l.take j, Op.bytesLess y s = false)
  | 0, _ => ⟨fun _ => by simp [putTo], fun h => by simp [putTo] at h⟩
  | j + 1, hj => by
    obtain ⟨x, hx⟩ : ∃ x, l[j]? = some x := ⟨l[j], List.getElem?_eq_getElem (by omega)⟩
    obtain ⟨i1, i2⟩ := putTo_of (s := s) hl j (by omega)
    have et : l.take (j + 1) = l.take j ++ [x] := by rw [List.take_add_one, hx]; rfl
    have hlt : ∀ y ∈ l.take j, SL y x := fun y hy => by
      obtain ⟨k, hk, rfl⟩ := List.mem_take_iff_getElem.1 hy
      obtain ⟨hj2, rfl⟩ := List.getElem?_eq_some_iff.1 hx
      exact List.pairwise_iff_getElem.1 hl k j (by omega) hj2 (by omega)
    rw [putTo_next hx, et]
    generalize putTo l s j = a at *
    obtain ⟨o, d⟩ := a
    unfold putStep
    cases d with
    | true =>
      obtain ⟨q1, q2, y, hy, hys⟩ := i2 rfl
      have q1 : o.Pairwise SL := q1
      have q2 : ∀ x, x ∈ o ↔ x ∈ l.take j ∨ x = s := q2
      simp only [Bool.not_true, Bool.false_and, Bool.false_eq_true, if_false, Bool.true_or]
      refine ⟨fun h => (by cases h), fun _ => ⟨?_, fun z => ?_, y, List.mem_append_left _ hy, hys⟩⟩
      · refine List.pairwise_append.2 ⟨q1, List.pairwise_singleton .., fun z hz w hw => ?_⟩
        rw [List.mem_singleton.1 hw]
        rcases (q2 z).1 hz with hz | rfl
        · exact hlt z hz
        · show Op.bytesLess z x = true
          cases k : Op.bytesLess z y with
          | true => exact bl_trans k (hlt y hy)
          | false => rw [bl_total k hys]; exact hlt y hy
      · rw [List.mem_append, List.mem_append, q2]
        constructor
        · rintro ((a | a) | a)
          · exact .inl (.inl a)
          · exact .inr a
          · exact .inl (.inr a)
        · rintro ((a | a) | a)
          · exact .inl (.inl a)
          · exact .inr a
          · exact .inl (.inr a)
    | false =>
      obtain ⟨q1, q2⟩ := i1 rfl
      have q1 : o = l.take j := q1
      subst q1
      simp only [Bool.not_false, Bool.true_and, Bool.false_or]
      cases k : Op.bytesLess x s with
      | true =>
        simp only [Bool.not_true, Bool.false_eq_true, if_false]
        refine ⟨fun _ => ⟨trivial, fun z hz => ?_⟩, fun h => by cases h⟩
        rcases List.mem_append.1 hz with hz | hz
        · exact q2 z hz
        · rw [List.mem_singleton.1 hz]; exact k
      | false =>
        simp only [Bool.not_false, if_true, Bool.false_or]
        refine ⟨fun h => (by cases h), fun _ => ?_⟩
        have hp : (l.take j).Pairwise SL := hl.sublist (List.take_sublist _ _)
        by_cases e : x = s
        · subst e
          simp only [beq_self_eq_true, Bool.not_true, Bool.false_eq_true, if_false]
          refine ⟨List.pairwise_append.2 ⟨hp, List.pairwise_singleton .., fun z hz w hw => ?_⟩, fun z => ?_, x, by simp, k⟩
          · rw [List.mem_singleton.1 hw]; exact hlt z hz
          · simp only [List.mem_append, List.mem_singleton]
            exact ⟨.inl, fun h => h.elim id .inr⟩
        · have hb : (x == s) = false := by simpa using e
          simp only [hb, Bool.not_false, if_true]
          have hsx : SL s x := by
            show Op.bytesLess s x = true
            cases k2 : Op.bytesLess s x with
            | true => rfl
            | false => exact absurd (bl_total k k2) e
          refine ⟨List.pairwise_append.2 ⟨List.pairwise_append.2 ⟨hp, List.pairwise_singleton .., fun z hz w hw => ?_⟩, List.pairwise_singleton .., fun z hz w hw => ?_⟩, fun z => ?_, x, by simp, k⟩
          · rw [List.mem_singleton.1 hw]; exact q2 z hz
          · rw [List.mem_singleton.1 hw]
            rcases List.mem_append.1 hz with hz | hz
            · exact hlt z hz
            · rw [List.mem_singleton.1 hz]; exact hsx
          · simp only [List.mem_append, List.mem_singleton]
            constructor
            · rintro ((a | a) | a)
              · exact .inl (.inl a)
              · exact .inr a
              · exact .inl (.inr a)
            · rintro ((a | a) | a)
              · exact .inl (.inl a)
              · exact .inr a
              · exact .inl (.inr a)
theorem putB_of {l : List Str8} {s : Str8} (hl : l.Pairwise SL) : (putB l s).Pairwise SL ∧ ∀ x, x ∈ putB l s ↔ x ∈ l ∨ x = s := by
  obtain ⟨h1, h2⟩ := putTo_of (s := s) hl l.length (Nat.le_refl _)
  rw [List.take_length] at h1 h2
  unfold putB
  cases h : (putTo l s l.length).2 with
  | true =>
    obtain ⟨q1, q2, _⟩ := h2 h
    simp only [if_true]
    exact ⟨q1, q2⟩
  | false =>
    obtain ⟨q1, q2⟩ := h1 h
    simp only [Bool.false_eq_true, if_false]
    rw [q1]
    refine ⟨List.pairwise_append.2 ⟨hl, List.pairwise_singleton .., fun z hz w hw => ?_⟩, fun x => by rw [List.mem_append, List.mem_singleton]⟩
    rw [List.mem_singleton.1 hw]; exact q2 z hz
theorem putB_len (l : List Str8) (s : Str8) : (putB l s).length ≤ 2 * l.length + 1 := by
  have := putTo_len l s l.length
  unfold putB
  split
  · omega
  · rw [List.length_append, List.length_singleton]; omega
theorem sl_ext {a b : List Str8} (ha : a.Pairwise SL) (hb : b.Pairwise SL) (h : ∀ x, x ∈ a ↔ x ∈ b) : a = b := by
  have irr : ∀ x : Str8, ¬ SL x x := fun x hx => by
    have := bl_asymm hx
    rw [hx] at this
    cases this
  have na : a.Nodup := ha.imp fun {x y} h e => by rw [e] at h; exact irr _ h
  have nb : b.Nodup := hb.imp fun {x y} h e => by rw [e] at h; exact irr _ h
  exact List.Perm.eq_of_pairwise (fun x y _ _ h1 h2 => by
    have h1 : Op.bytesLess x y = true := h1
    have h2 : Op.bytesLess y x = true := h2
    rw [bl_asymm h1] at h2
    cases h2) ha hb ((List.perm_ext_iff_of_nodup na nb).2 h)
theorem rPut_con (env : Env) (l : List Str8) (s : Str8) (hl : l.length ≤ 100000) : Con Tryd.prog env 28 [.seq 1 (l.map strAV), Sg s] (.own 9 1 ((putB l s).map strAV)) := by
  refine con_of_body Tryd.func28 rfl Tryd.call28 (by rw [Tryd.ntmps28]; simp) ?_
  rw [Tryd.ntmps28, Tryd.results28]
  repeat refine st0 ?_
  refine awp_loopH (D := Nat) (fun j vs => [(0, .seq 1 (l.map strAV)), (1, Sg s), (5, .row 8 (vs 8)), (6, B (putTo l s j).2), (7, I j)]) (fun j _ => [(8, ⟨1, (putTo l s j).1.map strAV, 9, true⟩)]) (fun j _ esc => j ≤ l.length ∧ esc 8 = false) (fun j => l.length - j) 0 ?_ ?_ ?_ ?_
  · exact ⟨Nat.zero_le _, rfl⟩
  · (simp only [go_sem])
    try rfl
  · (simp only [go_sem])
    try rfl
  rintro j ws esc ⟨hj, e0⟩
  have hpl := putTo_len l s j
  by_cases hlt : j < l.length
  · obtain ⟨x, hx⟩ : ∃ x, l[j]? = some x := ⟨l[j], List.getElem?_eq_getElem hlt⟩
    have q1 := nlt hlt
    have q2 := wrap_succ hlt (by omega)
    have hn := putTo_next (s := s) hx
    unfold putStep at hn
    generalize putTo l s j = a at *
    obtain ⟨o, d⟩ := a
    simp only at hpl hn
    have hf1 : Fits (o.length + 1) 16 := ⟨by omega, by omega⟩
    have hf2 : Fits (o.length + 1 + 1) 16 := ⟨by omega, by omega⟩
    cases hd : d with
    | true =>
      rw [hd] at hn
      simp only [Bool.not_true, Bool.false_and, Bool.false_eq_true, if_false, Bool.true_or] at hn
      have F := And.intro strAV.eq_1 <| And.intro hx <| And.intro q1 <| And.intro q2 <| And.intro hf1 <| e0
      repeat refine st ?_
      refine ⟨j + 1, ⟨hlt, by simp only [go_sem, e0]⟩, ?_, ?_, by omega⟩
      · have F := hn
        (simp only [go_sem, F])
      · have F := And.intro hn <| strAV.eq_1
        (simp only [go_sem, List.map_append, F])
    | false =>
      rw [hd] at hn
      simp only [Bool.not_false, Bool.true_and, Bool.false_or] at hn
      cases k : Op.bytesLess x s with
      | true =>
        rw [k] at hn
        simp only [Bool.not_true, Bool.false_eq_true, if_false] at hn
        have F := And.intro strAV.eq_1 <| And.intro hx <| And.intro q1 <| And.intro q2 <| And.intro hf1 <| And.intro e0 <| k
        repeat refine st ?_
        refine ⟨j + 1, ⟨hlt, by simp only [go_sem, e0]⟩, ?_, ?_, by omega⟩
        · have F := hn
          (simp only [go_sem, F])
        · have F := And.intro hn <| strAV.eq_1
          (simp only [go_sem, List.map_append, F])
      | false =>
        rw [k] at hn
        simp only [Bool.not_false, if_true, Bool.false_or] at hn
        cases k2 : x == s with
        | true =>
          rw [k2] at hn
          simp only [Bool.not_true, Bool.false_eq_true, if_false] at hn
          have F := And.intro strAV.eq_1 <| And.intro hx <| And.intro q1 <| And.intro q2 <| And.intro hf1 <| And.intro e0 <| And.intro k <| k2
          repeat refine st ?_
          refine ⟨j + 1, ⟨hlt, by simp only [go_sem, e0]⟩, ?_, ?_, by omega⟩
          · have F := hn
            (simp only [go_sem, F])
          · have F := And.intro hn <| strAV.eq_1
            (simp only [go_sem, List.map_append, F])
        | false =>
          rw [k2] at hn
          simp only [Bool.not_false, if_true] at hn
          have F := And.intro strAV.eq_1 <| And.intro hx <| And.intro q1 <| And.intro q2 <| And.intro hf1 <| And.intro hf2 <| And.intro e0 <| And.intro k <| k2
          repeat refine st ?_
          refine ⟨j + 1, ⟨hlt, by simp only [go_sem, e0]⟩, ?_, ?_, by omega⟩
          · have F := hn
            (simp only [go_sem, F])
          · have F := And.intro hn <| strAV.eq_1
            (simp only [go_sem, List.map_append, F])
  · obtain rfl : j = l.length := by omega
    have q1 : ¬ (l.length : Int) < (l.length : Int) := by omega
    have hf1 : Fits ((putTo l s l.length).1.length + 1) 16 := ⟨by omega, by omega⟩
    have hb : putB l s = if (putTo l s l.length).2 = true then (putTo l s l.length).1 else (putTo l s l.length).1 ++ [s] := rfl
    rw [hb]
    generalize putTo l s l.length = a at *
    obtain ⟨o, d⟩ := a
    cases hd : d with
    | true =>
      simp only [if_true]
      have F := And.intro q1 <| e0
      repeat refine st ?_
      exact aR
    | false =>
      simp only [Bool.false_eq_true, if_false, List.map_append]
      have F := And.intro strAV.eq_1 <| And.intro q1 <| And.intro hf1 <| e0
      repeat refine st ?_
      exact aR
end Go.Proofs.YtaonccobohiiiaaDoor
/- The document's timers of a chart. -/
set_option linter.unusedSimpArgs false
namespace Go.Proofs.YtaonccobohiiiaaDoor
open Go.RowKit
set_option maxRecDepth 100000
set_option maxHeartbeats 8000000

theorem putB_few {l : List Str8} {s : Str8} (hl : l.Pairwise SL) : (putB l s).length ≤ l.length + 1 := by
  obtain ⟨h1, h2⟩ := putB_of (s := s) hl
  have nd : (putB l s).Nodup := h1.imp fun {x y} h e => by
    rw [e] at h
    have h : Op.bytesLess y y = true := h
    have := bl_asymm h
    rw [h] at this
    cases this
  have := nd.length_le_of_subset (l₂ := l ++ [s]) fun x hx => by
    rcases (h2 x).1 hx with h | h
    · exact List.mem_append_left _ h
    · rw [h]; simp
  simpa using this
def tmP (o : List Str8) (a : ActD) : List Str8 := if a.kind = 4 ∨ a.kind = 5 then putB o a.name else o
def evP (o : List Str8) (a : ActD) : List Str8 := if a.kind = 2 then putB o a.name else o
theorem fold_put {P : List Str8 → ActD → List Str8} (hP : ∀ o a, P o a = o ∨ P o a = putB o a.name) : ∀ (L : List ActD) (o : List Str8), o.Pairwise SL → (L.foldl P o).Pairwise SL ∧ (L.foldl P o).length ≤ o.length + L.length
  | [], o, h => ⟨h, by simp⟩
  | a :: L, o, h => by
    rcases hP o a with e | e
    · obtain ⟨h1, h2⟩ := fold_put hP L (P o a) (by rw [e]; exact h)
      rw [List.foldl_cons, List.length_cons]
      refine ⟨h1, ?_⟩
      rw [e] at h2 ⊢
      omega
    · obtain ⟨h1, h2⟩ := fold_put hP L (P o a) (by rw [e]; exact (putB_of h).1)
      rw [List.foldl_cons, List.length_cons]
      refine ⟨h1, ?_⟩
      have := putB_few (s := a.name) h
      rw [e] at h2 ⊢
      omega
theorem allA_len {c : ChD} (h : Light c) : (allA c).length ≤ 10500 := by
  have h1 := stA_len h c.states.length
  have h2 := trA_len h c.trans.length
  have := h.st
  have := h.tr
  unfold allA
  rw [List.length_append]
  omega
theorem rTimers_con (env : Env) (c : ChD) (h : Light c) : Con Tryd.prog env 14 [.agg (chAV c)] (.seq 1 (((allA c).foldl tmP []).map strAV)) := by
  have f1 := rAll_con env c h
  have hl := allA_len h
  unfold chAV at f1
  have hP : ∀ o a, tmP o a = o ∨ tmP o a = putB o a.name := fun o a => by unfold tmP; split <;> simp
  refine con_of_body Tryd.func14 rfl Tryd.call14 (by rw [Tryd.ntmps14]; simp) ?_
  rw [Tryd.ntmps14, Tryd.results14]
  have F := chAV.eq_1
  repeat (first | refine st ?_ | refine cC f1 ?_)
  refine awp_soon (Turned.frozen 6 3 ⟨1, [], 9, true⟩ rfl (Nat.succ_ne_zero 0) (by simp only [go_sem]) (by simp only [go_sem])) ?_
  generalize allA c = L at *
  refine awp_loopH (D := Nat) (fun j vs => [(3, .seq 1 (((L.take j).foldl tmP []).map strAV)), (4, .row 8 (vs 8)), (5, I j)]) (fun _ _ => [(8, ⟨4, L.map actAV, 35, true⟩)]) (fun j _ _ => j ≤ L.length) (fun j => L.length - j) 0 ?_ ?_ ?_ ?_
  · exact Nat.zero_le _
  · (simp only [go_sem, F])
    try rfl
  · (simp only [go_sem, F])
    try rfl
  rintro j ws esc hj
  by_cases hlt : j < L.length
  · obtain ⟨a, ha⟩ : ∃ a, L[j]? = some a := ⟨L[j], List.getElem?_eq_getElem hlt⟩
    have q1 := nlt hlt
    have q2 := wrap_succ hlt (by omega)
    have hn : (L.take (j + 1)).foldl tmP [] = tmP ((L.take j).foldl tmP []) a := by rw [List.take_add_one, ha, List.foldl_append]; rfl
    have hol := (fold_put hP (L.take j) [] List.Pairwise.nil).2
    rw [List.length_nil, List.length_take] at hol
    have ho2 : ((L.take j).foldl tmP []).length ≤ 100000 := by omega
    generalize (L.take j).foldl tmP [] = o at *
    have f0 := rPut_con env o a.name ho2
    have hpl := putB_len o a.name
    refine awp_late ?_
    by_cases hk : a.kind = 4 ∨ a.kind = 5
    · have ht : tmP o a = putB o a.name := if_pos hk
      rw [ht] at hn
      rcases hk with hk | hk
      · have b1 : (a.kind == 4) = true := by simp [hk]
        have F := And.intro actAV.eq_1 <| And.intro ha <| And.intro q1 <| And.intro q2 <| b1
        repeat (first | refine st ?_ | refine cC f0 ?_)
        refine ⟨_, Turned.frozen 35 3 ⟨1, (putB o a.name).map strAV, 9, true⟩ rfl (Nat.succ_ne_zero 0) (by simp only [go_sem]) (by simp only [go_sem]), j + 1, hlt, ?_, ?_, by omega⟩
        · have F := hn
          (simp only [go_sem, F])
        · (simp only [go_sem, hn])
      · have b1 : (a.kind == 4) = false := by simp [hk]
        have b2 : (a.kind == 5) = true := by simp [hk]
        have F := And.intro actAV.eq_1 <| And.intro ha <| And.intro q1 <| And.intro q2 <| And.intro b1 <| b2
        repeat (first | refine st ?_ | refine cC f0 ?_)
        refine ⟨_, Turned.frozen 35 3 ⟨1, (putB o a.name).map strAV, 9, true⟩ rfl (Nat.succ_ne_zero 0) (by simp only [go_sem]) (by simp only [go_sem]), j + 1, hlt, ?_, ?_, by omega⟩
        · have F := hn
          (simp only [go_sem, F])
        · (simp only [go_sem, hn])
    · have ht : tmP o a = o := if_neg hk
      rw [ht] at hn
      have b1 : (a.kind == 4) = false := by simpa using fun e => hk (.inl e)
      have b2 : (a.kind == 5) = false := by simpa using fun e => hk (.inr e)
      have F := And.intro actAV.eq_1 <| And.intro ha <| And.intro q1 <| And.intro q2 <| And.intro b1 <| b2
      repeat (first | refine st ?_ | refine cC f0 ?_)
      refine ⟨_, Turned.refl _, j + 1, hlt, ?_, ?_, by omega⟩
      · have F := hn
        (simp only [go_sem, F])
      · (simp only [go_sem, hn])
  · obtain rfl : j = L.length := by omega
    have q1 : ¬ (L.length : Int) < (L.length : Int) := by omega
    rw [List.take_length]
    show awp _ _ _ _ _ _
    have F := q1
    repeat refine st ?_
    exact aR
def evP0 (o : List Str8) (t : TrD) : List Str8 := if t.event = [] then o else putB o t.event
theorem fold_put0 : ∀ (L : List TrD) (o : List Str8), o.Pairwise SL → (L.foldl evP0 o).Pairwise SL ∧ (L.foldl evP0 o).length ≤ o.length + L.length
  | [], o, h => ⟨h, by simp⟩
  | t :: L, o, h => by
    rw [List.foldl_cons, List.length_cons]
    by_cases he : t.event = []
    · have e : evP0 o t = o := if_pos he
      obtain ⟨h1, h2⟩ := fold_put0 L o h
      rw [e]
      exact ⟨h1, by omega⟩
    · have e : evP0 o t = putB o t.event := if_neg he
      obtain ⟨h1, h2⟩ := fold_put0 L (putB o t.event) (putB_of h).1
      have := putB_few (s := t.event) h
      rw [e]
      exact ⟨h1, by omega⟩
theorem rEvents24_con (env : Env) (c : ChD) (h : Light c) : Con Tryd.prog env 12 [.agg (chAV c)] (.seq 1 (((allA c).foldl evP (c.trans.foldl evP0 [])).map strAV)) := by
  have f1 := rAll_con env c h
  have hl := allA_len h
  have htr := h.tr
  unfold chAV at f1
  have hP : ∀ o a, evP o a = o ∨ evP o a = putB o a.name := fun o a => by unfold evP; split <;> simp
  refine con_of_body Tryd.func12 rfl Tryd.call12 (by rw [Tryd.ntmps12]; simp) ?_
  rw [Tryd.ntmps12, Tryd.results12]
  have F := chAV.eq_1
  repeat refine st ?_
  refine awp_soon (Turned.frozen 7 3 ⟨1, [], 9, true⟩ rfl (Nat.succ_ne_zero 0) (by simp only [go_sem]) (by simp only [go_sem])) ?_
  refine awp_loopH (D := Nat) (fun j vs => [(1, .loc 1 (vs 1) 0 0), (3, .seq 1 (((c.trans.take j).foldl evP0 []).map strAV)), (4, I j)]) (fun _ _ => [(1, ⟨5, [chAV c], 26, false⟩)]) (fun j _ _ => j ≤ c.trans.length) (fun j => c.trans.length - j) 0 ?_ ?_ ?_ ?_
  · exact Nat.zero_le _
  · (simp only [go_sem, F])
    try rfl
  · have F := chAV.eq_1
    (simp only [go_sem, F])
    try rfl
  rintro j ws esc hj
  by_cases hlt : j < c.trans.length
  · obtain ⟨t, hx⟩ : ∃ t, c.trans[j]? = some t := ⟨c.trans[j], List.getElem?_eq_getElem hlt⟩
    have q1 := nlt hlt
    have q2 := wrap_succ hlt (by omega)
    have hn : (c.trans.take (j + 1)).foldl evP0 [] = evP0 ((c.trans.take j).foldl evP0 []) t := by rw [List.take_add_one, hx, List.foldl_append]; rfl
    have hol := (fold_put0 (c.trans.take j) [] List.Pairwise.nil).2
    rw [List.length_nil, List.length_take] at hol
    have ho2 : ((c.trans.take j).foldl evP0 []).length ≤ 100000 := by omega
    generalize (c.trans.take j).foldl evP0 [] = o at *
    have f0 := rPut_con env o t.event ho2
    have hpl := putB_len o t.event
    refine awp_late ?_
    by_cases he : t.event = []
    · have e : evP0 o t = o := if_pos he
      rw [e] at hn
      have b1 : (t.event == []) = true := by simp [he]
      have F := And.intro chAV.eq_1 <| And.intro trAV.eq_1 <| And.intro hx <| And.intro q1 <| And.intro q2 <| b1
      repeat (first | refine st ?_ | refine cC f0 ?_)
      refine ⟨_, Turned.refl _, j + 1, hlt, ?_, ?_, by omega⟩
      · have F := hn
        (simp only [go_sem, F])
      · have F := chAV.eq_1
        (simp only [go_sem, F])
    · have e : evP0 o t = putB o t.event := if_neg he
      rw [e] at hn
      have b1 : (t.event == []) = false := by simpa using he
      have F := And.intro chAV.eq_1 <| And.intro trAV.eq_1 <| And.intro hx <| And.intro q1 <| And.intro q2 <| b1
      repeat (first | refine st ?_ | refine cC f0 ?_)
      refine ⟨_, Turned.frozen 29 3 ⟨1, (putB o t.event).map strAV, 9, true⟩ rfl (Nat.succ_ne_zero 0) (by simp only [go_sem]) (by simp only [go_sem]), j + 1, hlt, ?_, ?_, by omega⟩
      · have F := hn
        (simp only [go_sem, F])
      · have F := chAV.eq_1
        (simp only [go_sem, F])
  obtain rfl : j = c.trans.length := by omega
  have q1 : ¬ (c.trans.length : Int) < (c.trans.length : Int) := by omega
  have h0 := fold_put0 c.trans [] List.Pairwise.nil
  rw [List.take_length]
  rw [List.length_nil] at h0
  generalize c.trans.foldl evP0 [] = o0 at *
  show awp _ _ _ _ _ _
  have F := And.intro chAV.eq_1 <| q1
  repeat (first | refine st ?_ | refine cC f1 ?_)
  generalize allA c = L at *
  refine awp_loopH (D := Nat) (fun j vs => [(3, .seq 1 (((L.take j).foldl evP o0).map strAV)), (5, .row 31 (vs 31)), (6, I j)]) (fun _ _ => [(31, ⟨4, L.map actAV, 35, true⟩)]) (fun j _ _ => j ≤ L.length) (fun j => L.length - j) 0 ?_ ?_ ?_ ?_
  · exact Nat.zero_le _
  · (simp only [go_sem, F])
    try rfl
  · (simp only [go_sem, F])
    try rfl
  try clear hlt hj q1
  rintro j ws esc hj
  by_cases hlt : j < L.length
  · obtain ⟨a, ha⟩ : ∃ a, L[j]? = some a := ⟨L[j], List.getElem?_eq_getElem hlt⟩
    have q1 := nlt hlt
    have q2 := wrap_succ hlt (by omega)
    have hn : (L.take (j + 1)).foldl evP o0 = evP ((L.take j).foldl evP o0) a := by rw [List.take_add_one, ha, List.foldl_append]; rfl
    have hol := (fold_put hP (L.take j) o0 h0.1).2
    rw [List.length_take] at hol
    have ho2 : ((L.take j).foldl evP o0).length ≤ 100000 := by omega
    generalize (L.take j).foldl evP o0 = o at *
    have f0 := rPut_con env o a.name ho2
    refine awp_late ?_
    by_cases hk : a.kind = 2
    · have ht : evP o a = putB o a.name := if_pos hk
      rw [ht] at hn
      have b1 : (a.kind == 2) = true := by simp [hk]
      have F := And.intro actAV.eq_1 <| And.intro ha <| And.intro q1 <| And.intro q2 <| b1
      repeat (first | refine st ?_ | refine cC f0 ?_)
      refine ⟨_, Turned.frozen 50 3 ⟨1, (putB o a.name).map strAV, 9, true⟩ rfl (Nat.succ_ne_zero 0) (by simp only [go_sem]) (by simp only [go_sem]), j + 1, hlt, ?_, ?_, by omega⟩
      · have F := hn
        (simp only [go_sem, F])
      · (simp only [go_sem, hn])
    · have ht : evP o a = o := if_neg hk
      rw [ht] at hn
      have b1 : (a.kind == 2) = false := by simpa using hk
      have F := And.intro actAV.eq_1 <| And.intro ha <| And.intro q1 <| And.intro q2 <| b1
      repeat (first | refine st ?_ | refine cC f0 ?_)
      refine ⟨_, Turned.refl _, j + 1, hlt, ?_, ?_, by omega⟩
      · have F := hn
        (simp only [go_sem, F])
      · (simp only [go_sem, hn])
  · obtain rfl : j = L.length := by omega
    have q1 : ¬ (L.length : Int) < (L.length : Int) := by omega
    rw [List.take_length]
    show awp _ _ _ _ _ _
    have F := q1
    repeat refine st ?_
    exact aR
end Go.Proofs.YtaonccobohiiiaaDoor
/- The names counted in a map, in order, are the names put among rising ones. -/
namespace Go.Proofs.YtaonccobohiiiaaDoor
open Go.RowKit

/-- A map's names, and rising names: the same. -/
structure SameN (M : List (List UInt8 × Int)) (o : List Str8) : Prop where
  nd : (M.map (·.1)).Nodup
  up : o.Pairwise SL
  mem : ∀ x, x ∈ M.map (·.1) ↔ x ∈ o
theorem SameN.put {M : List (List UInt8 × Int)} {o : List Str8} (h : SameN M o) (k : Str8) : SameN (bump M k) (putB o k) := by
  obtain ⟨p1, p2⟩ := putB_of (s := k) h.up
  by_cases hk : k ∈ M.map (·.1)
  · refine ⟨by rw [bump_in hk]; exact h.nd, p1, fun x => ?_⟩
    rw [bump_in hk, p2, ← h.mem]
    exact ⟨.inl, fun hx => hx.elim id fun e => by rw [e]; exact hk⟩
  · refine ⟨?_, p1, fun x => ?_⟩
    · rw [bump_out hk, List.nodup_append]
      refine ⟨h.nd, by simp, fun a ha b hb e => ?_⟩
      rw [List.mem_singleton] at hb
      subst hb
      subst e
      exact hk ha
    · rw [bump_out hk, p2, List.mem_append, List.mem_singleton, h.mem]
theorem SameN.fold {α : Type} {f : List (List UInt8 × Int) → α → List (List UInt8 × Int)} {g : List Str8 → α → List Str8} (hfg : ∀ M o a, SameN M o → SameN (f M a) (g o a)) : ∀ (L : List α) (M : List (List UInt8 × Int)) (o : List Str8), SameN M o → SameN (L.foldl f M) (L.foldl g o)
  | [], _, _, h => h
  | a :: L, M, o, h => SameN.fold hfg L (f M a) (g o a) (hfg M o a h)
theorem fold_flat {α β γ : Type} (f : γ → β → γ) (g : α → List β) : ∀ (l : List α) (z : γ), (l.flatMap g).foldl f z = l.foldl (fun z a => (g a).foldl f z) z
  | [], _ => rfl
  | a :: l, z => by rw [List.flatMap_cons, List.foldl_append, List.foldl_cons, fold_flat f g l]
theorem allC_all (step : List (List UInt8 × Int) → ActD → List (List UInt8 × Int)) (c : ChD) (M : List (List UInt8 × Int)) : allC step c M = (allA c).foldl step M := by
  unfold allA stA trA allC
  rw [List.foldl_append, List.take_length, List.take_length, fold_flat, fold_flat]
  have : (fun z (a : StD) => (a.inn ++ a.out).foldl step z) = stStep step := by
    funext z a
    rw [List.foldl_append]
    rfl
  rw [this]
  rfl
theorem SameN.names {M : List (List UInt8 × Int)} {o : List Str8} (h : SameN M o) : namesOf M = o := by
  refine sl_ext ?_ h.up fun x => ?_
  · have h1 := leB_le (M.map (·.1))
    have h2 : (namesOf M).Nodup := (List.mergeSort_perm ..).nodup_iff.2 h.nd
    refine (List.pairwise_and_iff.2 ⟨h1, h2⟩).imp fun {a b} hh => ?_
    show Op.bytesLess a b = true
    cases hq : Op.bytesLess a b with
    | true => rfl
    | false => exact absurd (bl_total hq hh.1) hh.2
  · unfold namesOf
    rw [List.mem_mergeSort]
    exact h.mem x
theorem sameN_nil : SameN [] [] := ⟨List.nodup_nil, List.Pairwise.nil, fun x => by simp⟩
theorem ev_names (c : ChD) : SameN (evM c) ((allA c).foldl evP (c.trans.foldl evP0 [])) := by
  unfold evM
  rw [allC_all]
  refine SameN.fold (fun M o a h => ?_) _ _ _ (SameN.fold (fun M o t h => ?_) _ _ _ sameN_nil)
  · unfold evStep evP
    split
    · exact h.put _
    · exact h
  · unfold evTr evP0
    split
    · exact h
    · exact h.put _
theorem tm_names (c : ChD) : SameN (tmM c) ((allA c).foldl tmP []) := by
  unfold tmM
  rw [allC_all]
  refine SameN.fold (fun M o a h => ?_) _ _ _ sameN_nil
  unfold tmStep tmP
  split
  · exact h.put _
  · exact h
/-- What holds of all names put holds of all that come. -/
theorem fold_every {P : List Str8 → ActD → List Str8} (hP : ∀ o a, P o a = o ∨ P o a = putB o a.name) {p : Str8 → Prop} : ∀ (L : List ActD) (o : List Str8), o.Pairwise SL → (∀ x ∈ o, p x) → (∀ a ∈ L, p a.name) → ∀ x ∈ L.foldl P o, p x
  | [], _, _, h, _ => h
  | a :: L, o, ho, h, hL => by
    rw [List.foldl_cons]
    rcases hP o a with e | e
    · rw [e]
      exact fold_every hP L o ho h fun b hb => hL b (List.mem_cons_of_mem _ hb)
    · obtain ⟨h1, h2⟩ := putB_of (s := a.name) ho
      rw [e]
      refine fold_every hP L _ h1 (fun x hx => ?_) fun b hb => hL b (List.mem_cons_of_mem _ hb)
      rcases (h2 x).1 hx with hx | hx
      · exact h x hx
      · rw [hx]
        exact hL a (List.mem_cons_self ..)
theorem fold_every0 {p : Str8 → Prop} : ∀ (L : List TrD) (o : List Str8), o.Pairwise SL → (∀ x ∈ o, p x) → (∀ t ∈ L, p t.event) → ∀ x ∈ L.foldl evP0 o, p x
  | [], _, _, h, _ => h
  | t :: L, o, ho, h, hL => by
    rw [List.foldl_cons]
    unfold evP0
    split
    · exact fold_every0 L o ho h fun b hb => hL b (List.mem_cons_of_mem _ hb)
    · obtain ⟨h1, h2⟩ := putB_of (s := t.event) ho
      refine fold_every0 L _ h1 (fun x hx => ?_) fun b hb => hL b (List.mem_cons_of_mem _ hb)
      rcases (h2 x).1 hx with hx | hx
      · exact h x hx
      · rw [hx]
        exact hL t (List.mem_cons_self ..)
theorem allA_every {c : ChD} {p : ActD → Prop} (hs : ∀ s ∈ c.states, (∀ a ∈ s.inn, p a) ∧ ∀ a ∈ s.out, p a) (ht : ∀ t ∈ c.trans, ∀ a ∈ t.acts, p a) : ∀ a ∈ allA c, p a := fun a ha => by
  unfold allA stA trA at ha
  rw [List.take_length, List.take_length, List.mem_append, List.mem_flatMap, List.mem_flatMap] at ha
  rcases ha with ⟨s, h1, h2⟩ | ⟨t, h1, h2⟩
  · rcases List.mem_append.1 h2 with h2 | h2
    · exact (hs s h1).1 a h2
    · exact (hs s h1).2 a h2
  · exact ht t h1 a h2
end Go.Proofs.YtaonccobohiiiaaDoor
/- chart.Events, chart.Timers tell what the document tells. -/
namespace Go.Proofs.YtaonccobohiiiaaDoor
open Go.RowKit

def evO (c : ChD) : List Str8 := (allA c).foldl evP (c.trans.foldl evP0 [])
def tmO (c : ChD) : List Str8 := (allA c).foldl tmP []
theorem evP_or (o : List Str8) (a : ActD) : evP o a = o ∨ evP o a = putB o a.name := by unfold evP; split <;> simp
theorem tmP_or (o : List Str8) (a : ActD) : tmP o a = o ∨ tmP o a = putB o a.name := by unfold tmP; split <;> simp
theorem few_all {c : ChD} (hf : few_ch c) : ∀ a ∈ allA c, a.name.length ≤ maxLen :=
  allA_every (fun s hs => ⟨fun a ha => ((hf.2.2.1.2 s hs).2.1.2 a ha).1, fun a ha => ((hf.2.2.1.2 s hs).2.2.2 a ha).1⟩) fun t ht a ha => ((hf.2.2.2.2 t ht).2.2.2 a ha).1
theorem evO_len {c : ChD} (h : Light c) : (evO c).length ≤ 10600 := by
  have h0 := fold_put0 c.trans [] List.Pairwise.nil
  have h1 := (fold_put evP_or (allA c) _ h0.1).2
  have h2 := allA_len h
  have h3 := h.tr
  have h4 := h0.2
  rw [List.length_nil] at h4
  unfold evO
  omega
theorem tmO_len {c : ChD} (h : Light c) : (tmO c).length ≤ 10600 := by
  have h1 := (fold_put tmP_or (allA c) [] List.Pairwise.nil).2
  have h2 := allA_len h
  rw [List.length_nil] at h1
  unfold tmO
  omega
theorem keys_len {M : List (List UInt8 × Int)} {o : List Str8} (h : SameN M o) : (M.map (·.1)).length = o.length := by
  have := congrArg List.length h.names
  unfold namesOf at this
  rw [List.length_mergeSort] at this
  exact this
theorem evC_con (env : Env) (hsort : KeysIn Tryd.prog 27 9) (c : ChD) (h : Light c) (hf : few_ch c) : Con Tryd.prog env 11 [.agg (chAV c)] (.own 9 1 ((evO c).map strAV)) := by
  have hn := ev_names c
  have h1 := h.st
  have h2 := h.tr
  have h3 := keys_len hn
  have h4 := evO_len h
  have h5 : (evO c).length = ((allA c).foldl evP (c.trans.foldl evP0 [])).length := rfl
  have := events24_con env hsort c (by omega) (by omega) (fun s hs => by have := h.acts s hs; omega) (fun t ht => by have := h.tacts t ht; omega) hn.nd (by omega) (fun k hk => by
    rw [hn.mem] at hk
    exact fold_every (p := fun k => k.length ≤ maxLen) evP_or (allA c) _ (fold_put0 c.trans [] List.Pairwise.nil).1 (fold_every0 (p := fun k => k.length ≤ maxLen) c.trans [] List.Pairwise.nil (fun x hx => by cases hx) fun t ht => (hf.2.2.2.2 t ht).1) (few_all hf) k hk)
  rw [hn.names] at this
  exact this
theorem tmC_con (env : Env) (hsort : KeysIn Tryd.prog 27 9) (c : ChD) (h : Light c) (hf : few_ch c) : Con Tryd.prog env 13 [.agg (chAV c)] (.own 9 1 ((tmO c).map strAV)) := by
  have hn := tm_names c
  have h1 := h.st
  have h2 := h.tr
  have h3 := keys_len hn
  have h4 := tmO_len h
  have h5 : (tmO c).length = ((allA c).foldl tmP []).length := rfl
  have := timers_con env hsort c (by omega) (by omega) (fun s hs => by have := h.acts s hs; omega) (fun t ht => by have := h.tacts t ht; omega) hn.nd (by omega) (fun k hk => by
    rw [hn.mem] at hk
    exact fold_every (p := fun k => k.length ≤ maxLen) tmP_or (allA c) _ List.Pairwise.nil (fun x hx => by cases hx) (few_all hf) k hk)
  rw [hn.names] at this
  exact this
end Go.Proofs.YtaonccobohiiiaaDoor
/- Texts held together. -/
set_option linter.unusedSimpArgs false
namespace Go.Proofs.YtaonccobohiiiaaDoor
open Go.RowKit
set_option maxRecDepth 100000
set_option maxHeartbeats 8000000

theorem sameTexts_con (env : Env) (l m : List Str8) (hl : l.length ≤ 1000000) : Con Tryd.prog env 10 [.seq 1 (l.map strAV), .seq 1 (m.map strAV)] (B (decide (l = m))) := by
  by_cases h0 : l.length = m.length
  · refine con_of_body Tryd.func10 rfl Tryd.call10 (by rw [Tryd.ntmps10]; simp) ?_
    rw [Tryd.ntmps10, Tryd.results10]
    have g0 : ((l.length : Int) != (m.length : Int)) = false := by simp [h0]
    have F := g0
    repeat refine st ?_
    refine awp_loopH (D := Nat) (fun j _ => [(0, .seq 1 (l.map strAV)), (1, .seq 1 (m.map strAV)), (5, I j)]) (fun _ _ => []) (fun j _ _ => j ≤ l.length ∧ l.take j = m.take j) (fun j => l.length - j) 0 ?_ ?_ ?_ ?_
    · exact ⟨Nat.zero_le _, rfl⟩
    · (simp only [go_sem, F])
    · (simp only [go_sem, F])
    rintro j ws esc ⟨hj, ht⟩
    by_cases hlt : j < l.length
    · have hlt2 : j < m.length := by omega
      obtain ⟨a, ha⟩ : ∃ a, l[j]? = some a := ⟨l[j], List.getElem?_eq_getElem hlt⟩
      obtain ⟨b, hb⟩ : ∃ b, m[j]? = some b := ⟨m[j], List.getElem?_eq_getElem hlt2⟩
      have g1 := nlt hlt
      have g4 := nlt hlt2
      have g2 := wrap_succ hlt (by omega)
      by_cases e : a = b
      · have g3 : (a == b) = true := by simp [e]
        have F := And.intro g1 <| And.intro g2 <| And.intro g3 <| And.intro g4 <| And.intro ha <| And.intro hb <| And.intro strAV.eq_1 <| bneA
        repeat refine st ?_
        refine ⟨j + 1, ⟨hlt, ?_⟩, ?_, ?_, by omega⟩
        · rw [List.take_add_one, List.take_add_one, ht, ha, hb, e]
        · (simp only [go_sem, F])
        · (simp only [go_sem, F])
      · have g3 : (a == b) = false := by simpa using e
        have hr : decide (l = m) = false := decide_eq_false fun e2 => e (by rw [e2] at ha; exact Option.some.inj (ha.symm.trans hb))
        rw [hr]
        have F := And.intro g1 <| And.intro g2 <| And.intro g3 <| And.intro g4 <| And.intro ha <| And.intro hb <| And.intro strAV.eq_1 <| bneA
        repeat refine st ?_
        exact aR
    · obtain rfl : j = l.length := by omega
      have g1 : ¬ (l.length : Int) < (l.length : Int) := by omega
      have hr : decide (l = m) = true := decide_eq_true (by rwa [List.take_length, List.take_of_length_le (by omega)] at ht)
      rw [hr]
      have F := g1
      repeat refine st ?_
      exact aR
  · have g0 : ((l.length : Int) != (m.length : Int)) = true := by simp; omega
    have hr : decide (l = m) = false := decide_eq_false fun e => h0 (by rw [e])
    rw [hr]
    refine con_of_body Tryd.func10 rfl Tryd.call10 (by rw [Tryd.ntmps10]; simp) ?_
    rw [Tryd.ntmps10, Tryd.results10]
    have F := g0
    repeat refine st ?_
    exact aR

end Go.Proofs.YtaonccobohiiiaaDoor
/- The law ChartNames. -/
set_option linter.unusedSimpArgs false
namespace Go.Proofs.YtaonccobohiiiaaDoor
open Go.RowKit
set_option maxRecDepth 100000
set_option maxHeartbeats 16000000

theorem chart_keys : KeysIn Tryd.prog 27 9 := keys_sorted fun l hl => sortS_turns l hl
theorem light_of {c : ChD} (h : lightCB c = true) : Light c := by
  unfold lightCB at h
  simp only [Bool.and_eq_true, decide_eq_true_eq, List.all_eq_true] at h
  obtain ⟨⟨⟨⟨h1, h2⟩, _⟩, h4⟩, h5⟩ := h
  exact ⟨h1, h2, fun s hs => by have := h4 s hs; simpa [lightStB] using this, h5⟩
theorem lawNames_con (env : Env) (a1 a8 : Addr) (he : LawEnv env a1 a8) (c : ChD) (hc : few_ch c) : Con Tryd.prog env 4 [.agg (chAV c)] (B true) := by
  have f1 := light24_con env c
  have f3 := awake_con env a1 a8 he
  cases e1 : lightCB c
  · refine con_of_body Tryd.func4 rfl Tryd.call4 (by rw [Tryd.ntmps4]; simp) ?_
    rw [Tryd.ntmps4, Tryd.results4]
    have F := e1
    repeat (first | refine st ?_ | refine cC f1 ?_ | refine cC f3 ?_)
    exact aR
  have hL := light_of e1
  have h1 := evO_len hL
  have h2 := tmO_len hL
  have f4 := evC_con env chart_keys c hL hc
  have f5 := rEvents24_con env c hL
  have f6 := sameTexts_con env (evO c) (evO c) (by omega)
  have f7 := tmC_con env chart_keys c hL hc
  have f8 := rTimers_con env c hL
  have f9 := sameTexts_con env (tmO c) (tmO c) (by omega)
  rw [decide_eq_true rfl] at f6 f9
  rw [← evO] at f5
  rw [← tmO] at f8
  refine con_of_body Tryd.func4 rfl Tryd.call4 (by rw [Tryd.ntmps4]; simp) ?_
  rw [Tryd.ntmps4, Tryd.results4]
  have F := e1
  repeat (first | refine st ?_ | refine cC f1 ?_ | refine cC f4 ?_ | refine cC f5 ?_ | refine cC f6 ?_ | refine cC f7 ?_ | refine cC f8 ?_ | refine cC f9 ?_ | refine cC f3 ?_)
  exact aR
end Go.Proofs.YtaonccobohiiiaaDoor
