/- What a table tells. -/
import Derived.Test.YthffdneigmbgfaaGreatDoorM22
import Derived.Test.YthffdneigmbgfaaGreatDoorM7
import Derived.Test.YthffdneigmbgfaaGreatDoorM23
import Derived.Test.YthffdneigmbgfaaGreatDoorM27
import Derived.Test.YthffdneigmbgfaaGreatDoorM24
set_option linter.unusedSimpArgs false
namespace Go.Proofs.YthffdneigmbgfaaGreatDoor
open Go.RowKit
set_option maxRecDepth 100000
set_option maxHeartbeats 4000000
theorem sameInts_con (env : Env) (l m : List Nat) (hl : l.length ≤ 1000000) : Con Tryz.prog env 17 [.seq 1 (l.map natAV), .seq 1 (m.map natAV)] (B (decide (l = m))) := by
  by_cases h0 : l.length = m.length
  · refine con_of_body Tryz.func17 rfl Tryz.call17 (by rw [Tryz.ntmps17]; simp) ?_
    rw [Tryz.ntmps17, Tryz.results17]
    have g0 : ((l.length : Int) != (m.length : Int)) = false := by simp [h0]
    have F := g0
    repeat refine st ?_
    refine awp_loopH (D := Nat) (fun j _ => [(0, .seq 1 (l.map natAV)), (1, .seq 1 (m.map natAV)), (4, B false), (5, I j)]) (fun _ _ => []) (fun j _ _ => j ≤ l.length ∧ l.take j = m.take j) (fun j => l.length - j) 0 ?_ ?_ ?_ ?_
    · exact ⟨Nat.zero_le _, rfl⟩
    · (simp only [go_sem, F])
    · (simp only [go_sem, F])
    rintro j ws esc ⟨hj, ht⟩
    by_cases hlt : j < l.length
    · have hlt2 : j < m.length := by omega
      obtain ⟨a, ha⟩ : ∃ a, l[j]? = some a := ⟨l[j], List.getElem?_eq_getElem hlt⟩
      obtain ⟨b, hb⟩ : ∃ b, m[j]? = some b := ⟨m[j], List.getElem?_eq_getElem hlt2⟩
      have g1 := nlt hlt
      have g4 := nlt hlt2
      have g2 := wrap_succ hlt (by omega)
      by_cases e : a = b
      · have g3 : ((a : Int) != (b : Int)) = false := by simp [e]
        have F := And.intro g1 <| And.intro g2 <| And.intro g4 <| And.intro ha <| And.intro hb <| And.intro natAV.eq_1 <| g3
        repeat refine st ?_
        refine ⟨j + 1, ⟨hlt, ?_⟩, ?_, ?_, by omega⟩
        · rw [List.take_add_one, List.take_add_one, ht, ha, hb, e]
        · (simp only [go_sem, F])
        · (simp only [go_sem, F])
      · have g3 : ((a : Int) != (b : Int)) = true := by simp; omega
        have hr : decide (l = m) = false := decide_eq_false fun e2 => e (by rw [e2] at ha; exact Option.some.inj (ha.symm.trans hb))
        rw [hr]
        have F := And.intro g1 <| And.intro g2 <| And.intro g4 <| And.intro ha <| And.intro hb <| And.intro natAV.eq_1 <| g3
        repeat refine st ?_
        exact aR
    · obtain rfl : j = l.length := by omega
      have g1 : ¬ (l.length : Int) < (l.length : Int) := by omega
      have hr : decide (l = m) = true := decide_eq_true (by rwa [List.take_length, List.take_of_length_le (by omega)] at ht)
      rw [hr]
      have F := g1
      repeat refine st ?_
      exact aR
  · have g0 : ((l.length : Int) != (m.length : Int)) = true := by simp; omega
    have hr : decide (l = m) = false := decide_eq_false fun e => h0 (by rw [e])
    rw [hr]
    refine con_of_body Tryz.func17 rfl Tryz.call17 (by rw [Tryz.ntmps17]; simp) ?_
    rw [Tryz.ntmps17, Tryz.results17]
    have F := g0
    repeat refine st ?_
    exact aR
theorem rIs_con (env : Env) (c : ChD) (i : Int) : Con Tryz.prog env 23 [.agg (chAV c), I i] (B (inZ c i)) := by
  unfold inZ
  by_cases h0 : 0 ≤ i
  · by_cases h1 : i < (c.states.length : Int)
    · refine con_of_body Tryz.func23 rfl Tryz.call23 (by rw [Tryz.ntmps23]; simp) ?_
      rw [Tryz.ntmps23, Tryz.results23]
      have F := And.intro chAV.eq_1 <| And.intro h0 <| h1
      repeat refine st ?_
      exact aR
    · refine con_of_body Tryz.func23 rfl Tryz.call23 (by rw [Tryz.ntmps23]; simp) ?_
      rw [Tryz.ntmps23, Tryz.results23]
      have F := And.intro chAV.eq_1 <| And.intro h0 <| h1
      repeat refine st ?_
      exact aR
  · refine con_of_body Tryz.func23 rfl Tryz.call23 (by rw [Tryz.ntmps23]; simp) ?_
    rw [Tryz.ntmps23, Tryz.results23]
    have F := And.intro chAV.eq_1 <| h0
    repeat refine st ?_
    exact aR
theorem kids_few {c : ChD} (h : Right c) (i : Int) (real : Bool) : (kidsL c i real).length ≤ 32 := by
  have h1 := kidsTo_len c i real c.states.length
  have h2 := h.few
  have h1 : (kidsL c i real).length ≤ c.states.length := h1
  omega
theorem walk_few {c : ChD} (h : Right c) {i : Int} (hi : -1 ≤ i) : (walkL c i).length ≤ 32 := by
  have hf := h.few
  have := (walk_nodup h 40 i hi (by omega)).length_le_of_subset (l₂ := List.range c.states.length) fun m hm => List.mem_range.2 ((walk_mem h 40 i m hi (by omega)).1 hm).1
  simp at this
  omega
theorem flat_pre {α β : Type} (f : α → List β) (K : List α) (j : Nat) : ((K.take j).flatMap f).length ≤ (K.flatMap f).length := by
  have e : (K.take j).flatMap f ++ (K.drop j).flatMap f = K.flatMap f := by rw [← List.flatMap_append, List.take_append_drop]
  have := congrArg List.length e
  simp only [List.length_append] at this
  omega
theorem flat_succ {α β : Type} (f : α → List β) {K : List α} {j : Nat} {k : α} (hk : K[j]? = some k) : (K.take (j + 1)).flatMap f = (K.take j).flatMap f ++ f k := by rw [List.take_add_one, hk, List.flatMap_append]; simp
theorem rWalk_con (env : Env) (c : ChD) (h : Right c) : ∀ (n : Nat) (i : Int), -1 ≤ i → (c.states.length : Int) ≤ i + n → Con Tryz.prog env 117 [.agg (chAV c), I i] (.own 3 1 ((walkL c i).map natAV))
  | n, i, hi, hn => by
    have hlen := h.few
    have f0 := rKids_con env c i false (by omega)
    have hw := walk_eq h hi
    have hwl := walk_few h hi
    have hKl := kids_few h i false
    have hKm : ∀ k ∈ kidsL c i false, i < (k : Int) ∧ k < c.states.length := fun k hk => kid_gt h hk
    generalize kidsL c i false = K at *
    rw [hw] at hwl
    refine con_of_body Tryz.func117 rfl Tryz.call117 (by rw [Tryz.ntmps117]; simp) ?_
    rw [Tryz.ntmps117, Tryz.results117]
    have F := chAV.eq_1
    repeat (first | refine st ?_ | refine cC f0 ?_)
    refine awp_loopH (D := Nat) (fun j vs => [(2, .loc 2 (vs 2) 0 0), (5, .row 8 (vs 8)), (6, .row 11 (vs 11)), (7, I j)]) (fun j _ => [(2, ⟨5, [chAV c], 26, false⟩), (8, ⟨1, ((K.take j).flatMap fun k => k :: walkL c k).map natAV, 3, true⟩), (11, ⟨1, K.map natAV, 3, true⟩)]) (fun j _ esc => j ≤ K.length ∧ esc 8 = false) (fun j => K.length - j) 0 ?_ ?_ ?_ ?_
    · exact ⟨Nat.zero_le _, rfl⟩
    · (simp only [go_sem, F])
    · have F := chAV.eq_1
      (simp only [go_sem, F])
      try rfl
    rintro j ws esc ⟨hj, e0⟩
    by_cases hlt : j < K.length
    · obtain ⟨k, hk⟩ : ∃ k, K[j]? = some k := ⟨K[j], List.getElem?_eq_getElem hlt⟩
      have hkm := hKm k (List.mem_of_getElem? hk)
      have q1 := nlt hlt
      have q2 := wrap_succ hlt (by omega)
      match n, hn with
      | 0, hn => omega
      | n + 1, hn =>
      have f1 := rWalk_con env c h n k (by omega) (by omega)
      have hp := flat_pre (fun k => k :: walkL c k) K (j + 1)
      have hsu := flat_succ (fun k => k :: walkL c k) hk
      rw [hsu] at hp
      simp only [List.length_append, List.length_cons] at hp
      generalize hA : (K.take j).flatMap (fun k => k :: walkL c k) = A at *
      have hf1 : Fits (A.length + 1) 8 := fits_small (by omega) (by omega)
      have hf2 : Fits (A.length + 1 + (walkL c k).length) 8 := fits_small (by omega) (by omega)
      have F := And.intro chAV.eq_1 <| And.intro natAV.eq_1 <| And.intro hk <| And.intro q1 <| And.intro q2 <| And.intro hf1 <| And.intro hf2 <| e0
      repeat (first | refine st ?_ | refine cC f1 ?_)
      refine ⟨j + 1, ⟨hlt, by simp only [go_sem, e0]⟩, ?_, ?_, by omega⟩
      · (simp only [go_sem, F])
      · have F := And.intro chAV.eq_1 <| And.intro natAV.eq_1 <| hsu
        (simp only [go_sem, List.map_append, List.append_assoc, F])
    · obtain rfl : j = K.length := by omega
      have q1 : ¬ (K.length : Int) < (K.length : Int) := by omega
      have hta : K.take K.length = K := List.take_length
      rw [hw]
      have F := And.intro natAV.eq_1 <| And.intro q1 <| And.intro hta <| e0
      repeat refine st ?_
      exact aR
termination_by n => n
def inTo (l W : List Nat) (j : Nat) : List Nat := (W.take j).filter fun k : Nat => inL l (k : Int)
theorem inTo_succ {l W : List Nat} {j k : Nat} (h : W[j]? = some k) : inTo l W (j + 1) = if inL l (k : Int) then inTo l W j ++ [k] else inTo l W j := by
  unfold inTo
  rw [List.take_add_one, h, List.filter_append]
  cases hb : inL l (k : Int) <;> simp [hb]
theorem inTo_len (l W : List Nat) (j : Nat) : (inTo l W j).length ≤ W.length := by
  unfold inTo
  exact Nat.le_trans (List.length_filter_le ..) (by rw [List.length_take]; omega)
theorem inL_z (l : List Nat) (n : Int) : inL l n = (zL l).contains n := by
  rw [Bool.eq_iff_iff, inL_iff, List.contains_iff_mem]
  unfold zL
  rw [List.mem_map]
theorem take_allN {c : ChD} {l : List Nat} {j k : Nat} (h : ((zL l).take j).all (inZ c) = true) (hk : l[j]? = some k) (hz : inZ c k = true) : ((zL l).take (j + 1)).all (inZ c) = true := by
  have : (zL l)[j]? = some ((k : Nat) : Int) := by unfold zL; rw [List.getElem?_map, hk]; rfl
  exact take_all h this hz
theorem rSort_con (env : Env) (c : ChD) (h : Right c) (l : List Nat) (hl : l.length ≤ 1000000) : Con Tryz.prog env 78 [.agg (chAV c), .seq 1 (l.map natAV)] (.own 3 1 ((sortL c (zL l)).map natAV)) := by
  have hlen := h.few
  refine con_of_body_w Tryz.func78 rfl Tryz.call78 (by rw [Tryz.ntmps78]; simp) ?_
  rw [Tryz.ntmps78, Tryz.results78]
  have F := chAV.eq_1
  repeat refine st ?_
  refine awp_loopH (D := Nat) (fun j vs => [(1, .seq 1 (l.map natAV)), (2, .loc 2 (vs 2) 0 0), (5, I j)]) (fun _ _ => [(2, ⟨5, [chAV c], 26, false⟩)]) (fun j _ _ => j ≤ l.length ∧ ((zL l).take j).all (inZ c) = true) (fun j => l.length - j) 0 ?_ ?_ ?_ ?_
  · exact ⟨Nat.zero_le _, rfl⟩
  · (simp only [go_sem, F])
  · have F := chAV.eq_1
    (simp only [go_sem, F])
  rintro j ws esc ⟨hj, hall⟩
  by_cases hlt : j < l.length
  · obtain ⟨k, hk⟩ : ∃ k, l[j]? = some k := ⟨l[j], List.getElem?_eq_getElem hlt⟩
    have q1 := nlt hlt
    have q2 := wrap_succ hlt (by omega)
    have f0 := rIs_con env c k
    cases hz : inZ c k with
    | false =>
      rw [hz] at f0
      have F := And.intro chAV.eq_1 <| And.intro natAV.eq_1 <| And.intro q1 <| And.intro q2 <| hk
      repeat (first | refine st ?_ | refine cC f0 ?_)
      (refine awp_ret ?_; refine ⟨_, (by show (resRd _ _ _).run _ = some _; simp only [go_sem, F]; rfl), ?_⟩)
      rw [show sortL c (zL l) = [] from sort_bad (show (zL l)[j]? = some ((k : Nat) : Int) by unfold zL; rw [List.getElem?_map, hk]; rfl) hz]
      exact RStr.own_nil _ _ (by decide)
    | true =>
      rw [hz] at f0
      have F := And.intro chAV.eq_1 <| And.intro natAV.eq_1 <| And.intro q1 <| And.intro q2 <| hk
      repeat (first | refine st ?_ | refine cC f0 ?_)
      refine ⟨j + 1, ⟨hlt, take_allN hall hk hz⟩, ?_, ?_, by omega⟩
      · (simp only [go_sem, F])
      · (simp only [go_sem, F])
  obtain rfl : j = l.length := by omega
  have q1 : ¬ (l.length : Int) < (l.length : Int) := by omega
  have f1 := rWalk_con env c h 40 (-1) (by omega) (by omega)
  have hwl := walk_few h (show (-1 : Int) ≤ -1 by omega)
  have hall : (zL l).all (inZ c) = true := by rwa [List.take_of_length_le (by simp [zL])] at hall
  have hsort : sortL c (zL l) = inTo l (walkL c (-1)) (walkL c (-1)).length := by
    unfold sortL inTo
    rw [if_pos hall, List.take_length]
    apply List.filter_congr
    intro k _
    rw [inL_z]
  rw [hsort]
  generalize walkL c (-1) = W at *
  have F := And.intro chAV.eq_1 <| q1
  repeat (first | refine st ?_ | refine cC f1 ?_)
  refine awp_loopH (D := Nat) (fun j vs => [(1, .seq 1 (l.map natAV)), (6, .row 22 (vs 22)), (7, .row 24 (vs 24)), (8, I j)]) (fun j _ => [(22, ⟨1, (inTo l W j).map natAV, 3, true⟩), (24, ⟨1, W.map natAV, 3, true⟩)]) (fun j _ esc => j ≤ W.length ∧ esc 22 = false) (fun j => W.length - j) 0 ?_ ?_ ?_ ?_
  · exact ⟨Nat.zero_le _, rfl⟩
  · (simp only [go_sem, F])
  · (simp only [go_sem, F])
    try rfl
  try clear q1
  rintro j ws esc ⟨hj, e0⟩
  by_cases hlt : j < W.length
  · obtain ⟨k, hk⟩ : ∃ k, W[j]? = some k := ⟨W[j], List.getElem?_eq_getElem hlt⟩
    have q1 := nlt hlt
    have q2 := wrap_succ hlt (by omega)
    have f0 := rIn_con env l k (by omega)
    have hil := inTo_len l W j
    have hf : Fits ((inTo l W j).length + 1) 8 := fits_small (by omega) (by omega)
    have hn := inTo_succ (l := l) hk
    cases hb : inL l k with
    | true =>
      rw [hb] at f0
      rw [hb, if_pos rfl] at hn
      have F := And.intro natAV.eq_1 <| And.intro q1 <| And.intro q2 <| And.intro hk <| And.intro hf <| e0
      repeat (first | refine st ?_ | refine cC f0 ?_)
      refine ⟨j + 1, ⟨hlt, by simp only [go_sem, e0]⟩, ?_, ?_, by omega⟩
      · (simp only [go_sem, F])
      · have F := And.intro natAV.eq_1 <| hn
        (simp only [go_sem, List.map_append, F])
    | false =>
      rw [hb] at f0
      rw [hb, if_neg Bool.false_ne_true] at hn
      have F := And.intro natAV.eq_1 <| And.intro q1 <| And.intro q2 <| And.intro hk <| And.intro hf <| e0
      repeat (first | refine st ?_ | refine cC f0 ?_)
      refine ⟨j + 1, ⟨hlt, by simp only [go_sem, e0]⟩, ?_, ?_, by omega⟩
      · (simp only [go_sem, F])
      · have F := And.intro natAV.eq_1 <| hn
        (simp only [go_sem, List.map_append, F])
  · obtain rfl : j = W.length := by omega
    have q1 : ¬ (W.length : Int) < (W.length : Int) := by omega
    have F := And.intro q1 <| e0
    repeat refine st ?_
    (refine awp_ret ?_; refine ⟨_, (by show (resRd _ _ _).run _ = some _; simp only [go_sem, F]; rfl), ?_⟩)
    exact RStr.refl _
end Go.Proofs.YthffdneigmbgfaaGreatDoor
set_option linter.unusedSimpArgs false
namespace Go.Proofs.YthffdneigmbgfaaGreatDoor
open Go.RowKit
set_option maxRecDepth 100000
set_option maxHeartbeats 4000000
theorem cloneN_con (env : Env) : Con Tryz.prog env 68 [nilS] (.own 3 1 []) := (cloneI_con env [] (by simp)).args (Strs.cons (Str.nil 1) Strs.nil)
theorem tabTree_con (env : Env) (c : ChD) : Con Tryz.prog env 58 [tabAV c] (treeAV c) := by
  refine con_of_body Tryz.func58 rfl Tryz.call58 (by rw [Tryz.ntmps58]; simp) ?_
  rw [Tryz.ntmps58, Tryz.results58]
  have F := And.intro tabAV.eq_1 <| And.intro tabCells.eq_1 <| treeAV.eq_1
  repeat refine st ?_
  exact aR
theorem tabChart_con (env : Env) (c : ChD) (hs : Small c) : Con Tryz.prog env 27 [tabAV c] (.agg (chAV c)) := by
  have f0 := pCopy_con env c hs
  unfold chAV at f0
  refine con_of_body Tryz.func27 rfl Tryz.call27 (by rw [Tryz.ntmps27]; simp) ?_
  rw [Tryz.ntmps27, Tryz.results27]
  have F := And.intro tabAV.eq_1 <| tabCells.eq_1
  repeat (first | refine st ?_ | refine cC f0 ?_)
  (refine awp_ret ?_; show (resRd _ _ _).run _ = some _; simp only [go_sem, F])
  rfl
theorem tabEvents_con (env : Env) (c : ChD) (hc : c.trans.length ≤ 4096) : Con Tryz.prog env 21 [tabAV c] (.own 9 1 ((evL c).map strAV)) := by
  have hl := evL_len c
  have f0 := cloneS_con env ((evL c).map strAV) (by rw [List.length_map]; omega)
  refine con_of_body Tryz.func21 rfl Tryz.call21 (by rw [Tryz.ntmps21]; simp) ?_
  rw [Tryz.ntmps21, Tryz.results21]
  have F := And.intro tabAV.eq_1 <| tabCells.eq_1
  repeat (first | refine st ?_ | refine cC f0 ?_)
  exact aR
theorem tabEvent_con (env : Env) (c : ChD) (hc : c.trans.length ≤ 4096) (s : List UInt8) : Con Tryz.prog env 22 [tabAV c, Sg s] (I (evI c s)) := event_con env c (by omega) _ _ s
def tatL (c : ChD) (i e : Int) : List Nat := if e < 0 then [] else atL c i e
theorem atL_len (c : ChD) (i e : Int) : (atL c i e).length ≤ c.trans.length := row_len ..
theorem atL_some {c : ChD} {i e : Int} {q : Nat} (hq : idxP (i, e) (keysTo c c.trans.length) 0 = some q) : (transE c)[q]? = some [.agg [I i, I e], .seq 1 ((atL c i e).map natAV)] := by
  have := (idxP_some hq).2
  unfold transE
  rw [List.getElem?_map, Nat.sub_zero] at *
  rw [this]
  rfl
theorem tabAt_con (env : Env) (c : ChD) (hc : c.trans.length ≤ 4096) (i e : Int) : Con Tryz.prog env 20 [tabAV c, I i, I e] (.own 3 1 ((tatL c i e).map natAV)) := by
  have hl := atL_len c i e
  have hm := mfind_E c i e
  unfold tatL
  by_cases h : e < 0
  · rw [if_pos h]
    refine con_of_body_w Tryz.func20 rfl Tryz.call20 (by rw [Tryz.ntmps20]; simp) ?_
    rw [Tryz.ntmps20, Tryz.results20]
    have F := And.intro tabAV.eq_1 <| And.intro tabCells.eq_1 <| h
    repeat refine st ?_
    (refine awp_ret ?_; refine ⟨_, (by show (resRd _ _ _).run _ = some _; simp only [go_sem, F]; rfl), ?_⟩)
    exact RStr.own_nil _ _ (by decide)
  · rw [if_neg h]
    cases hq : idxP (i, e) (keysTo c c.trans.length) 0 with
    | none =>
      rw [hq] at hm
      have f0 := cloneN_con env
      rw [show atL c i e = [] from row_none (idxP_none hq)]
      refine con_of_body Tryz.func20 rfl Tryz.call20 (by rw [Tryz.ntmps20]; simp) ?_
      rw [Tryz.ntmps20, Tryz.results20]
      have F := And.intro tabAV.eq_1 <| And.intro tabCells.eq_1 <| And.intro h <| hm
      repeat (first | refine st ?_ | refine cC f0 ?_)
      exact aR
    | some q =>
      rw [hq] at hm
      have hk := atL_some hq
      have f0 := cloneI_con env ((atL c i e).map natAV) (by rw [List.length_map]; omega)
      refine con_of_body Tryz.func20 rfl Tryz.call20 (by rw [Tryz.ntmps20]; simp) ?_
      rw [Tryz.ntmps20, Tryz.results20]
      have F := And.intro tabAV.eq_1 <| And.intro tabCells.eq_1 <| And.intro h <| And.intro hm <| hk
      repeat (first | refine st ?_ | refine cC f0 ?_)
      exact aR
theorem tabAuto_con (env : Env) (c : ChD) (hc : c.trans.length ≤ 4096) (i : Int) : Con Tryz.prog env 18 [tabAV c, I i] (.own 3 1 ((atL c i (-1)).map natAV)) := by
  have hl := atL_len c i (-1)
  have hm := mfind_E c i (-1)
  cases hq : idxP (i, -1) (keysTo c c.trans.length) 0 with
  | none =>
    rw [hq] at hm
    have f0 := cloneN_con env
    rw [show atL c i (-1) = [] from row_none (idxP_none hq)]
    refine con_of_body Tryz.func18 rfl Tryz.call18 (by rw [Tryz.ntmps18]; simp) ?_
    rw [Tryz.ntmps18, Tryz.results18]
    have F := And.intro tabAV.eq_1 <| And.intro tabCells.eq_1 <| hm
    repeat (first | refine st ?_ | refine cC f0 ?_)
    exact aR
  | some q =>
    rw [hq] at hm
    have hk := atL_some hq
    have f0 := cloneI_con env ((atL c i (-1)).map natAV) (by rw [List.length_map]; omega)
    refine con_of_body Tryz.func18 rfl Tryz.call18 (by rw [Tryz.ntmps18]; simp) ?_
    rw [Tryz.ntmps18, Tryz.results18]
    have F := And.intro tabAV.eq_1 <| And.intro tabCells.eq_1 <| And.intro hm <| hk
    repeat (first | refine st ?_ | refine cC f0 ?_)
    exact aR
theorem tabIs_con (env : Env) (c : ChD) (i : Int) : Con Tryz.prog env 71 [tabAV c, I i] (B (inZ c i)) := by
  unfold inZ
  by_cases h0 : 0 ≤ i
  · by_cases h1 : i < (c.states.length : Int)
    · refine con_of_body Tryz.func71 rfl Tryz.call71 (by rw [Tryz.ntmps71]; simp) ?_
      rw [Tryz.ntmps71, Tryz.results71]
      have F := And.intro tabAV.eq_1 <| And.intro tabCells.eq_1 <| And.intro h0 <| h1
      repeat refine st ?_
      exact aR
    · refine con_of_body Tryz.func71 rfl Tryz.call71 (by rw [Tryz.ntmps71]; simp) ?_
      rw [Tryz.ntmps71, Tryz.results71]
      have F := And.intro tabAV.eq_1 <| And.intro tabCells.eq_1 <| And.intro h0 <| h1
      repeat refine st ?_
      exact aR
  · refine con_of_body Tryz.func71 rfl Tryz.call71 (by rw [Tryz.ntmps71]; simp) ?_
    rw [Tryz.ntmps71, Tryz.results71]
    have F := And.intro tabAV.eq_1 <| And.intro tabCells.eq_1 <| h0
    repeat refine st ?_
    exact aR
def tbegL (c : ChD) (i : Int) : List Nat := if inZ c (if i = -1 then c.initial else i) = true then sbL c (if i = -1 then c.initial else i).toNat else []
theorem tabBegin_con (env : Env) (c : ChD) (h : Full c) (i : Int) : Con Tryz.prog env 24 [tabAV c, I i] (.own 3 1 ((tbegL c i).map natAV)) := by
  have hlen := h.few
  unfold tbegL
  by_cases e : i = -1
  · subst e
    simp only [if_true]
    obtain ⟨s, hs, hini, _⟩ := h.topS
    have hi := (List.getElem?_eq_some_iff.1 hs).1
    have f0 := tabIs_con env c c.initial
    have hz : inZ c c.initial = true := by rw [hini]; exact inZ_nat.2 hi
    rw [hz] at f0
    rw [hz, if_pos rfl]
    have f1 := cloneI_con env ((sbL c (iniN c)).map natAV) (by rw [List.length_map]; have := sb_len h (iniN c); omega)
    have hb : (begE c c.states.length)[iniN c]? = some [.seq 1 ((sbL c (iniN c)).map natAV)] := by unfold begE; rw [List.getElem?_map, List.getElem?_range hi]; rfl
    have hbl : (begE c c.states.length).length = c.states.length := by simp [begE]
    have g0 : ((iniN c : Nat) : Int) < (c.states.length : Int) := by omega
    rw [hini] at f0 ⊢
    rw [Int.toNat_natCast]
    unfold tabAV tabCells at f0 ⊢
    rw [hini] at f0 ⊢
    refine con_of_body Tryz.func24 rfl Tryz.call24 (by rw [Tryz.ntmps24]; simp) ?_
    rw [Tryz.ntmps24, Tryz.results24]
    have F := And.intro hb <| And.intro hbl <| g0
    repeat (first | refine st ?_ | refine cC f0 ?_ | refine cC f1 ?_)
    exact aR
  · rw [if_neg e]
    have e1 : (i == -1) = false := by simpa using e
    have f0 := tabIs_con env c i
    cases hz : inZ c i with
    | false =>
      rw [hz] at f0
      rw [if_neg (by simp)]
      unfold tabAV tabCells at f0 ⊢
      refine con_of_body_w Tryz.func24 rfl Tryz.call24 (by rw [Tryz.ntmps24]; simp) ?_
      rw [Tryz.ntmps24, Tryz.results24]
      have F := e1
      repeat (first | refine st ?_ | refine cC f0 ?_)
      (refine awp_ret ?_; refine ⟨_, (by show (resRd _ _ _).run _ = some _; simp only [go_sem, F]; rfl), ?_⟩)
      exact RStr.own_nil _ _ (by decide)
    | true =>
      obtain ⟨k, s, rfl, hs, ha⟩ := at_in hz
      have hi := (List.getElem?_eq_some_iff.1 hs).1
      rw [hz] at f0
      rw [if_pos rfl, Int.toNat_natCast]
      have f1 := cloneI_con env ((sbL c k).map natAV) (by rw [List.length_map]; have := sb_len h k; omega)
      have hb : (begE c c.states.length)[k]? = some [.seq 1 ((sbL c k).map natAV)] := by unfold begE; rw [List.getElem?_map, List.getElem?_range hi]; rfl
      have hbl : (begE c c.states.length).length = c.states.length := by simp [begE]
      have g0 : ((k : Nat) : Int) < (c.states.length : Int) := by omega
      unfold tabAV tabCells at f0 ⊢
      refine con_of_body Tryz.func24 rfl Tryz.call24 (by rw [Tryz.ntmps24]; simp) ?_
      rw [Tryz.ntmps24, Tryz.results24]
      have F := And.intro hb <| And.intro hbl <| And.intro g0 <| e1
      repeat (first | refine st ?_ | refine cC f0 ?_ | refine cC f1 ?_)
      exact aR
theorem tabReal_con (env : Env) (c : ChD) (h : Full c) (i : Int) : Con Tryz.prog env 26 [tabAV c, I i] (.own 3 1 ((if i = -1 ∨ inZ c i = true then kidsL c i true else []).map natAV)) := by
  have hlen := h.few
  have f0 := tabIs_con env c i
  have f1 := pReal_con env c i (by omega)
  unfold chAV at f1
  unfold tabAV tabCells at f0 ⊢
  by_cases e : i = -1
  · subst e
    have hz : inZ c (-1) = false := by unfold inZ; simp
    rw [hz] at f0
    rw [if_pos (.inl rfl)]
    refine con_of_body Tryz.func26 rfl Tryz.call26 (by rw [Tryz.ntmps26]; simp) ?_
    rw [Tryz.ntmps26, Tryz.results26]
    repeat (first | refine st0 ?_ | refine cC0 f0 ?_ | refine cC0 f1 ?_)
    exact aR0
  · have e1 : (i != -1) = true := by simpa using e
    cases hz : inZ c i with
    | false =>
      rw [hz] at f0
      rw [if_neg (by simp [e])]
      refine con_of_body_w Tryz.func26 rfl Tryz.call26 (by rw [Tryz.ntmps26]; simp) ?_
      rw [Tryz.ntmps26, Tryz.results26]
      have F := e1
      repeat (first | refine st ?_ | refine cC f0 ?_ | refine cC f1 ?_)
      (refine awp_ret ?_; refine ⟨_, (by show (resRd _ _ _).run _ = some _; simp only [go_sem, F]; rfl), ?_⟩)
      exact RStr.own_nil _ _ (by decide)
    | true =>
      rw [hz] at f0
      rw [if_pos (.inr rfl)]
      refine con_of_body Tryz.func26 rfl Tryz.call26 (by rw [Tryz.ntmps26]; simp) ?_
      rw [Tryz.ntmps26, Tryz.results26]
      have F := e1
      repeat (first | refine st ?_ | refine cC f0 ?_ | refine cC f1 ?_)
      exact aR
def memP (c : ChD) (i : Int) (k : Nat) : Bool := match c.states[k]? with
  | some s => inZ c i && ((s.parent == i) && memyB s)
  | none => false
def memL (c : ChD) (i : Int) : List Nat := (List.range c.states.length).filter (memP c i)
theorem mem_kids {c : ChD} (i : Int) (hz : inZ c i = true) : memL c i = (kidsL c i false).filter fun k : Nat => !inL (kidsL c i true) (k : Int) := by
  unfold memL kidsL kidsTo
  rw [List.filter_filter]
  apply List.filter_congr
  intro k hk
  have hk := List.mem_range.1 hk
  obtain ⟨s, hs⟩ : ∃ s, c.states[k]? = some s := ⟨c.states[k], List.getElem?_eq_getElem hk⟩
  have e1 : isKid c i false k = (s.parent == i) := by unfold isKid; rw [hs]; simp
  have e2 : inL ((List.range c.states.length).filter (isKid c i true)) (k : Int) = ((s.parent == i) && !memyB s) := by
    rw [Bool.eq_iff_iff, inL_iff]
    constructor
    · rintro ⟨j, hj, e⟩
      have : j = k := by omega
      subst this
      have := (List.mem_filter.1 hj).2
      unfold isKid at this
      rw [hs] at this
      simpa using this
    · intro e
      refine ⟨k, List.mem_filter.2 ⟨List.mem_range.2 hk, ?_⟩, rfl⟩
      unfold isKid
      rw [hs]
      simpa using e
  unfold memP
  rw [e1, e2, hs]
  simp only [hz, Bool.true_and]
  cases (s.parent == i) <;> cases memyB s <;> rfl
def memTo (K R : List Nat) (j : Nat) : List Nat := (K.take j).filter fun k : Nat => !inL R (k : Int)
theorem memTo_succ {K R : List Nat} {j k : Nat} (h : K[j]? = some k) : memTo K R (j + 1) = if inL R (k : Int) then memTo K R j else memTo K R j ++ [k] := by
  unfold memTo
  rw [List.take_add_one, h, List.filter_append]
  cases hb : inL R (k : Int) <;> simp [hb]
theorem memTo_len (K R : List Nat) (j : Nat) : (memTo K R j).length ≤ K.length := by
  unfold memTo
  exact Nat.le_trans (List.length_filter_le ..) (by rw [List.length_take]; omega)
theorem tabMem_con (env : Env) (c : ChD) (h : Full c) (i : Int) : Con Tryz.prog env 31 [tabAV c, I i] (.own 3 1 ((memL c i).map natAV)) := by
  have hlen := h.few
  have f0 := tabIs_con env c i
  cases hz : inZ c i with
  | false =>
    rw [hz] at f0
    have hm : memL c i = [] := by
      unfold memL
      rw [List.filter_eq_nil_iff]
      intro k _
      unfold memP
      cases c.states[k]? with
      | none => simp
      | some s => simp [hz]
    rw [hm]
    unfold tabAV tabCells at f0 ⊢
    refine con_of_body_w Tryz.func31 rfl Tryz.call31 (by rw [Tryz.ntmps31]; simp) ?_
    rw [Tryz.ntmps31, Tryz.results31]
    repeat (first | refine st0 ?_ | refine cC0 f0 ?_)
    (refine awp_ret ?_; refine ⟨_, (by show (resRd _ _ _).run _ = some _; simp only [go_sem]; rfl), ?_⟩)
    exact RStr.own_nil _ _ (by decide)
  | true =>
    rw [hz] at f0
    rw [mem_kids i hz]
    have f1 := pReal_con env c i (by omega)
    have f2 := pKids_con env c i (by omega)
    unfold chAV at f1 f2
    have hKl := kids_few h.toRight i false
    have hRl := kids_few h.toRight i true
    generalize kidsL c i true = R at *
    generalize kidsL c i false = K at *
    unfold tabAV tabCells at f0 ⊢
    refine con_of_body Tryz.func31 rfl Tryz.call31 (by rw [Tryz.ntmps31]; simp) ?_
    rw [Tryz.ntmps31, Tryz.results31]
    repeat (first | refine st0 ?_ | refine cC0 f0 ?_ | refine cC0 f1 ?_ | refine cC0 f2 ?_)
    refine awp_nilrow 6 6 3 1 ?_
    refine awp_loopH (D := Nat) (fun j vs => [(5, .row 18 (vs 18)), (6, .row 6 (vs 6)), (24, .row 24 (vs 24)), (25, I K.length), (26, I j)]) (fun j _ => [(6, ⟨1, (memTo K R j).map natAV, 3, true⟩), (18, ⟨1, R.map natAV, 3, true⟩), (24, ⟨1, K.map natAV, 3, true⟩)]) (fun j _ esc => j ≤ K.length ∧ esc 6 = false) (fun j => K.length - j) 0 ?_ ?_ ?_ ?_
    · exact ⟨Nat.zero_le _, rfl⟩
    · (simp only [go_sem])
    · (simp only [go_sem])
      try rfl
    rintro j ws esc ⟨hj, e0⟩
    by_cases hlt : j < K.length
    · obtain ⟨k, hk⟩ : ∃ k, K[j]? = some k := ⟨K[j], List.getElem?_eq_getElem hlt⟩
      have q1 := nlt hlt
      have q2 := wrap_succ hlt (by omega)
      have f3 := contains_con env R k (by omega)
      have hil := memTo_len K R j
      have hf : Fits ((memTo K R j).length + 1) 8 := fits_small (by omega) (by omega)
      have hn := memTo_succ (R := R) hk
      cases hb : inL R k with
      | true =>
        rw [hb] at f3
        rw [hb, if_pos rfl] at hn
        have F := And.intro natAV.eq_1 <| And.intro q1 <| And.intro q2 <| And.intro hk <| And.intro hf <| e0
        repeat (first | refine st ?_ | refine cC f3 ?_)
        refine ⟨j + 1, ⟨hlt, by simp only [go_sem, e0]⟩, ?_, ?_, by omega⟩
        · (simp only [go_sem, F])
        · have F := And.intro natAV.eq_1 <| hn
          (simp only [go_sem, List.map_append, F])
      | false =>
        rw [hb] at f3
        rw [hb, if_neg Bool.false_ne_true] at hn
        have F := And.intro natAV.eq_1 <| And.intro q1 <| And.intro q2 <| And.intro hk <| And.intro hf <| e0
        repeat (first | refine st ?_ | refine cC f3 ?_)
        refine ⟨j + 1, ⟨hlt, by simp only [go_sem, e0]⟩, ?_, ?_, by omega⟩
        · (simp only [go_sem, F])
        · have F := And.intro natAV.eq_1 <| hn
          (simp only [go_sem, List.map_append, F])
    · obtain rfl : j = K.length := by omega
      have q1 : ¬ (K.length : Int) < (K.length : Int) := by omega
      have hall : memTo K R K.length = K.filter fun k : Nat => !inL R (k : Int) := by unfold memTo; rw [List.take_length]
      have F := And.intro q1 <| And.intro hall <| e0
      repeat refine st ?_
      exact aR
end Go.Proofs.YthffdneigmbgfaaGreatDoor
