/- Package legal: flags, how many, fits, check, first. -/
import Derived.Test.YthffdneigmbgfaaGreatDoorM12
import Derived.Test.YthffdneigmbgfaaGreatDoorM35
import Derived.Test.YthffdneigmbgfaaGreatDoorM21
import Derived.Shelf.Slices.In.SortNone
import Derived.Test.YthffdneigmbgfaaGreatDoorM29
import Derived.Test.YthffdneigmbgfaaGreatDoorM7
namespace Go.Proofs.YthffdneigmbgfaaGreatDoor
open Go.RowKit Go.Sort Go.Shelf Go.Lib
def flagA (n : Nat) (act : List Int) : List (List AV) := (List.range n).map fun k : Nat => [B (act.contains (k : Int))]
theorem flag_len (n : Nat) (act : List Int) : (flagA n act).length = n := by unfold flagA; simp
theorem flag_at {n : Nat} {act : List Int} {k : Nat} (hk : k < n) : (flagA n act)[k]? = some [B (act.contains (k : Int))] := by
  unfold flagA
  rw [List.getElem?_map, List.getElem?_range hk]
  rfl
theorem flag_zero (n : Nat) : List.replicate n [B false] = flagA n [] := by
  unfold flagA
  apply List.ext_getElem?
  intro j
  rw [List.getElem?_map]
  by_cases h : j < n
  · rw [List.getElem?_range h, List.getElem?_replicate_of_lt h]
    rfl
  · rw [List.getElem?_eq_none (by simp; omega), List.getElem?_eq_none (by simp; omega)]
    rfl
theorem flag_out {n : Nat} {act : List Int} {i : Int} (h : ∀ k : Nat, k < n → (k : Int) ≠ i) : flagA n (act ++ [i]) = flagA n act := by
  unfold flagA
  apply List.map_congr_left
  intro k hk
  have := h k (List.mem_range.1 hk)
  simp
  exact fun e => absurd e this
theorem flag_set {n : Nat} {act : List Int} {k : Nat} (hk : k < n) : (flagA n act).set k [B true] = flagA n (act ++ [(k : Int)]) := by
  apply List.ext_getElem?
  intro j
  by_cases hj : j < n
  · rw [flag_at hj]
    by_cases e : k = j
    · subst e
      rw [List.getElem?_set_self (by rw [flag_len]; exact hk)]
      simp
    · rw [List.getElem?_set_ne e, flag_at hj]
      simp
      exact fun e2 => absurd (by omega) e
  · rw [List.getElem?_eq_none (by rw [List.length_set, flag_len]; omega), List.getElem?_eq_none (by rw [flag_len]; omega)]
theorem many_to {act : List Int} {ks : List Nat} {j k : Nat} (hk : ks[j]? = some k) : manyI act (ks.take (j + 1)) = manyI act (ks.take j) + if act.contains (k : Int) = true then 1 else 0 := by
  unfold manyI
  rw [List.take_add_one, hk, List.filter_append, List.length_append]
  simp only [Option.toList_some, List.filter_cons, List.filter_nil]
  split <;> rfl
theorem zL_int (l : List Nat) : (zL l).map intAV = l.map natAV := by simp only [zL, List.map_map]; rfl
theorem zL_len (l : List Nat) : (zL l).length = l.length := List.length_map ..
/-! slices.Sort of ints -/
def intC (k : Int) : List Value := [.int .i64 k]
def sortZ (l : List Int) : List Int := l.mergeSort fun x y => decide (x ≤ y)
theorem holds_mapI {w : World} {g : Nat} {l : List Int} (h : Holds id w g 0 (l.map (Value.int .i64)).toArray) : Holds (Value.int .i64) w g 0 l.toArray := fun j hj => by
  have hj' : j < l.length := by simpa using hj
  have := h j (by simpa using hj')
  rw [getElem!_pos _ j (by simpa using hj')] at this
  rw [getElem!_pos _ j hj]
  simpa using this
theorem Tryz.sortIEnter : ∀ (args : Array Value) (w : World), (callFunc 87 args).run Tryz.prog w = .ok (.enter 87 args) w := enters_of Tryz.func87 (by kernel_rfl) rfl
theorem sortI_turns (l : List Int) (hl : l.length < 4611686018427387904) : Turns Tryz.prog 87 [] 3 1 (l.map intC) ((sortZ l).map intC) := by
  by_cases h0 : l = []
  · subst h0
    rw [show sortZ [] = [] by simp [sortZ]]
    exact turns_none Tryz.sortIEnter fun p cap w => Any.slices_Sort_int_none Tryz.sortI p cap w
  · refine turns_base (by rw [List.length_map]; exact List.length_pos_iff.2 h0) Tryz.sortIEnter (by simp [sortZ]) (fun x hx => ?_) (fun x hx => ?_) fun w g cap hH hg => ?_
    · obtain ⟨y, _, rfl⟩ := List.mem_map.1 hx; rfl
    · obtain ⟨y, _, rfl⟩ := List.mem_map.1 hx
      exact ⟨rfl, fun u hu => by rw [List.mem_singleton.1 hu]; rfl⟩
    · have hH : Holds id w g 0 (l.map (Value.int .i64)).toArray := by rw [← flat_one]; exact hH
      have := Any.slices_Sort_int Tryz.sortI g 0 cap l w (holds_mapI hH) hg hl
      rw [List.length_map]
      refine (show Calls Tryz.prog 87 #[.slice (some ⟨g, 0, none⟩) l.length cap] w _ from this).mono ?_
      rintro ex w' ⟨rfl, n, os, rfl⟩
      refine ⟨rfl, n, os, ?_⟩
      rw [putRow_id, show ((sortZ l).map intC).flatten = (sortZ l).map (Value.int .i64) from flat_one (Value.int .i64) _]
      simp [sortZ]
theorem sort_rises {c : ChD} {l : List Nat} (hn : l.Nodup) (hb : ∀ k ∈ l, k < c.states.length) : sortZ (zL l) = zL (riseL c l) := by
  have hp : (zL (riseL c l)).Perm (zL l) := by
    unfold zL
    apply List.Perm.map
    refine (List.perm_ext_iff_of_nodup ?_ hn).2 fun k => ?_
    · exact (List.nodup_range).sublist List.filter_sublist
    · rw [rise_mem]
      exact ⟨fun h => h.2, fun h => ⟨hb k h, h⟩⟩
  have hs1 : (zL (riseL c l)).Pairwise (fun x y : Int => decide (x ≤ y) = true) := by
    unfold zL
    rw [List.pairwise_map]
    exact (rises (p := fun k : Nat => inL l (k : Int)) (n := c.states.length)).imp fun h => by simp; omega
  have hs2 : (sortZ (zL l)).Pairwise (fun x y : Int => decide (x ≤ y) = true) := List.pairwise_mergeSort (fun a b c => by simp; omega) (fun a b => by simp; omega) _
  have hp2 : (sortZ (zL l)).Perm (zL (riseL c l)) := (List.mergeSort_perm ..).trans hp.symm
  exact List.Perm.eq_of_pairwise (fun a b _ _ h1 h2 => by simp at h1 h2; omega) hs2 hs1 hp2
end Go.Proofs.YthffdneigmbgfaaGreatDoor
set_option linter.unusedSimpArgs false
namespace Go.Proofs.YthffdneigmbgfaaGreatDoor
open Go.RowKit
set_option maxRecDepth 100000
set_option maxHeartbeats 8000000
theorem flags_con (env : Env) (c : ChD) (hc : c.states.length ≤ 4000) (act : List Int) (hl : act.length ≤ 1000000) : Con Tryz.prog env 54 [tabAV c, .seq 1 (act.map intAV)] (.own 4 1 (flagA c.states.length act)) := by
  have f0 := tabTree_con env c
  have f1 := tlen_con env c
  have hz := flag_zero c.states.length
  have m1 : ¬ (16777216 : Int) < (c.states.length : Int) := by omega
  have m2 : ¬ (281474976710656 : Int) < 1 * (c.states.length : Int) := by omega
  have m3 : ¬ (c.states.length : Int) < 0 := by omega
  have m4 : ¬ (281474976710656 : Int) < (c.states.length : Int) := by omega
  unfold treeAV at f0 f1
  unfold tabAV at f0 ⊢
  refine con_of_body Tryz.func54 rfl Tryz.call54 (by rw [Tryz.ntmps54]; simp) ?_
  rw [Tryz.ntmps54, Tryz.results54]
  have F := And.intro m1 <| And.intro m2 <| And.intro m3 <| m4
  repeat (first | refine st ?_ | refine cC f0 ?_ | refine cC f1 ?_)
  refine awp_loopH (D := Nat) (fun j vs => [(5, .row 11 (vs 11)), (12, .seq 1 (act.map intAV)), (13, I act.length), (14, I j)]) (fun j _ => [(11, ⟨1, flagA c.states.length (act.take j), 4, true⟩)]) (fun j _ esc => j ≤ act.length ∧ esc 11 = false) (fun j => act.length - j) 0 ?_ ?_ ?_ ?_
  · exact ⟨Nat.zero_le _, rfl⟩
  · (simp only [go_sem, F])
  · have F := hz
    (simp only [go_sem, F])
  rintro j ws esc ⟨hj, e0⟩
  by_cases hlt : j < act.length
  · obtain ⟨x, hx⟩ : ∃ x, act[j]? = some x := ⟨act[j], List.getElem?_eq_getElem hlt⟩
    have q1 := nlt hlt
    have q2 := wrap_succ hlt (by omega)
    have ht : act.take (j + 1) = act.take j ++ [x] := by rw [List.take_add_one, hx]; rfl
    have hfl := flag_len c.states.length (act.take j)
    by_cases h0 : 0 ≤ x
    · obtain ⟨k, rfl⟩ := nat_of h0
      by_cases h1 : k < c.states.length
      · have q3 := nlt h1
        have hs := flag_set (act := act.take j) h1
        have hat := flag_at (act := act.take j) h1
        rw [← ht] at hs
        have F := And.intro hx <| And.intro q1 <| And.intro q2 <| And.intro q3 <| And.intro hat <| And.intro hs <| And.intro hfl <| e0
        repeat refine st ?_
        refine ⟨j + 1, ⟨hlt, by simp only [go_sem, e0]⟩, ?_, ?_, by omega⟩
        · (simp only [go_sem, F])
        · (simp only [go_sem, F])
      · have q3 : ¬ (k : Int) < (c.states.length : Int) := by omega
        have hs := flag_out (n := c.states.length) (act := act.take j) (i := (k : Int)) (fun m hm => by omega)
        rw [← ht] at hs
        have F := And.intro hx <| And.intro q1 <| And.intro q2 <| And.intro q3 <| And.intro hfl <| e0
        repeat refine st ?_
        refine ⟨j + 1, ⟨hlt, by simp only [go_sem, e0]⟩, ?_, ?_, by omega⟩
        · (simp only [go_sem, F])
        · have F := hs
          (simp only [go_sem, F])
    · have hs := flag_out (n := c.states.length) (act := act.take j) (i := x) (fun m hm => by omega)
      rw [← ht] at hs
      have F := And.intro hx <| And.intro q1 <| And.intro q2 <| And.intro h0 <| And.intro hfl <| e0
      repeat refine st ?_
      refine ⟨j + 1, ⟨hlt, by simp only [go_sem, e0]⟩, ?_, ?_, by omega⟩
      · (simp only [go_sem, F])
      · have F := hs
        (simp only [go_sem, F])
  · obtain rfl : j = act.length := by omega
    have q1 : ¬ (act.length : Int) < (act.length : Int) := by omega
    have hta : act.take act.length = act := List.take_length
    have F := And.intro q1 <| And.intro hta <| e0
    repeat refine st ?_
    exact aR
theorem many_con (env : Env) (n : Nat) (act : List Int) (ks : List Nat) (_hn : n ≤ 4000) (hl : ks.length ≤ 4000) (hk : ∀ k ∈ ks, k < n) : Con Tryz.prog env 90 [.seq 1 (flagA n act), .seq 1 (ks.map natAV)] (I (manyI act ks : Nat)) := by
  have hfl := flag_len n act
  have z0 : manyI act [] = 0 := rfl
  refine con_of_body Tryz.func90 rfl Tryz.call90 (by rw [Tryz.ntmps90]; simp) ?_
  rw [Tryz.ntmps90, Tryz.results90]
  repeat refine st0 ?_
  refine awp_loopH (D := Nat) (fun j _ => [(0, .seq 1 (flagA n act)), (5, I (manyI act (ks.take j) : Nat)), (8, .seq 1 (ks.map natAV)), (9, I ks.length), (10, I j)]) (fun _ _ => []) (fun j _ _ => j ≤ ks.length) (fun j => ks.length - j) 0 ?_ ?_ ?_ ?_
  · exact Nat.zero_le _
  · have F := z0
    (simp only [go_sem, F])
  · (simp only [go_sem, z0])
  rintro j ws esc hj
  by_cases hlt : j < ks.length
  · obtain ⟨k, hk2⟩ : ∃ k, ks[j]? = some k := ⟨ks[j], List.getElem?_eq_getElem hlt⟩
    have hkn := hk k (List.mem_of_getElem? hk2)
    have q1 := nlt hlt
    have q2 := wrap_succ hlt (by omega)
    have q3 := nlt hkn
    have hat := flag_at (act := act) hkn
    have hm := many_to (act := act) hk2
    have hle := many_le act (ks.take j)
    rw [List.length_take] at hle
    have q4 := wrap_succ (show manyI act (ks.take j) < ks.length by omega) (by omega)
    cases hb : act.contains (k : Int) with
    | true =>
      rw [hb] at hat hm
      rw [if_pos rfl] at hm
      have F := And.intro natAV.eq_1 <| And.intro hk2 <| And.intro q1 <| And.intro q2 <| And.intro q3 <| And.intro q4 <| And.intro hat <| hfl
      repeat refine st ?_
      refine ⟨j + 1, hlt, ?_, ?_, by omega⟩
      · have F := hm
        (simp only [go_sem, F])
      · (simp only [go_sem, hm])
    | false =>
      rw [hb] at hat hm
      rw [if_neg Bool.false_ne_true, Nat.add_zero] at hm
      have F := And.intro natAV.eq_1 <| And.intro hk2 <| And.intro q1 <| And.intro q2 <| And.intro q3 <| And.intro hat <| hfl
      repeat refine st ?_
      refine ⟨j + 1, hlt, ?_, ?_, by omega⟩
      · have F := hm
        (simp only [go_sem, F])
      · (simp only [go_sem, hm])
  · obtain rfl : j = ks.length := by omega
    have q1 : ¬ (ks.length : Int) < (ks.length : Int) := by omega
    have hta : ks.take ks.length = ks := List.take_length
    have F := And.intro q1 <| hta
    repeat refine st ?_
    exact aR
theorem par_bound {c : ChD} (h : Right c) {k : Nat} {s : StD} (hs : c.states[k]? = some s) (act : List Int) : (s.parent < 0 ∧ decide (s.parent < 0) = true) ∨ (¬ s.parent < 0 ∧ decide (s.parent < 0) = false ∧ 0 ≤ s.parent ∧ s.parent < (c.states.length : Int) ∧ (flagA c.states.length act)[s.parent.toNat]? = some [B (act.contains s.parent)]) := by
  have hi := (List.getElem?_eq_some_iff.1 hs).1
  have h2 := (h.par k s hs).2
  by_cases e : s.parent < 0
  · exact .inl ⟨e, decide_eq_true e⟩
  · refine .inr ⟨e, decide_eq_false e, by omega, by omega, ?_⟩
    rw [flag_at (by omega)]
    rw [show ((s.parent.toNat : Nat) : Int) = s.parent by omega]
theorem fits_con (env : Env) (c : ChD) (h : Full c) (act : List Int) (k : Nat) (s : StD) (hs : c.states[k]? = some s) : Con Tryz.prog env 88 [.agg (chAV c), tabAV c, .seq 1 (flagA c.states.length act), I k] (B (fitB c act k s)) := by
  have hlen := h.few
  have hi := (List.getElem?_eq_some_iff.1 hs).1
  have q0 : ((k : Nat) : Int) < (c.states.length : Int) := by omega
  have f0 := tabReal_con env c h k
  rw [if_pos (.inr (inZ_nat.2 hi))] at f0
  have hK := kids_few h.toRight k true
  have hKm : ∀ j ∈ kidsL c k true, j < c.states.length := fun j hj => by have := kid_gt h.toRight (kid_real hj).1; omega
  have f1 := many_con env c.states.length act (kidsL c k true) (by omega) (by omega) hKm
  have hfl := flag_len c.states.length act
  have hp := par_bound h.toRight hs act
  have hF : fitB c act k s = (!memyB s && (decide (s.parent < 0) || act.contains s.parent) && (if s.kind = 1 ∧ kidsL c k true ≠ [] then manyI act (kidsL c k true) == 1 else if s.kind = 2 then manyI act (kidsL c k true) == (kidsL c k true).length else true)) := rfl
  rw [hF]
  try clear hF
  generalize kidsL c k true = K at *
  unfold tabAV at f0 ⊢
  by_cases e4 : s.kind = 4
  · have b4 : (s.kind == 4) = true := by simpa using e4
    have hm : memyB s = true := by unfold memyB; rw [b4]; rfl
    rw [hm]
    refine con_of_body Tryz.func88 rfl Tryz.call88 (by rw [Tryz.ntmps88]; simp) ?_
    rw [Tryz.ntmps88, Tryz.results88]
    have F := And.intro chAV.eq_1 <| And.intro stAV.eq_1 <| And.intro hs <| And.intro q0 <| b4
    repeat (first | refine st ?_ | refine cC f0 ?_)
    exact aR
  have b4 : (s.kind == 4) = false := by simpa using e4
  by_cases e5 : s.kind = 5
  · have b5 : (s.kind == 5) = true := by simpa using e5
    have hm : memyB s = true := by unfold memyB; rw [b5, Bool.or_true]
    rw [hm]
    refine con_of_body Tryz.func88 rfl Tryz.call88 (by rw [Tryz.ntmps88]; simp) ?_
    rw [Tryz.ntmps88, Tryz.results88]
    have F := And.intro chAV.eq_1 <| And.intro stAV.eq_1 <| And.intro hs <| And.intro q0 <| And.intro b4 <| b5
    repeat (first | refine st ?_ | refine cC f0 ?_)
    exact aR
  have b5 : (s.kind == 5) = false := by simpa using e5
  have hm : memyB s = false := by unfold memyB; rw [b4, b5]; rfl
  rw [hm]
  by_cases e1 : s.kind = 1
  · have b1 : (s.kind == 1) = true := by simpa using e1
    by_cases hk0 : K = []
    · rw [if_neg (by simp [hk0]), if_neg (by omega)]
      have q1 : ¬ (0 : Int) < (K.length : Int) := by rw [hk0]; simp
      rcases hp with ⟨g0, g1⟩ | ⟨g0, g1, g2, g3, g4⟩
      · refine con_of_body Tryz.func88 rfl Tryz.call88 (by rw [Tryz.ntmps88]; simp) ?_
        rw [Tryz.ntmps88, Tryz.results88]
        have F := And.intro chAV.eq_1 <| And.intro stAV.eq_1 <| And.intro hs <| And.intro q0 <| And.intro b4 <| And.intro b5 <| And.intro b1 <| And.intro q1 <| And.intro g0 <| g1
        repeat (first | refine st ?_ | refine cC f0 ?_)
        exact aR
      · refine con_of_body Tryz.func88 rfl Tryz.call88 (by rw [Tryz.ntmps88]; simp) ?_
        rw [Tryz.ntmps88, Tryz.results88]
        have F := And.intro chAV.eq_1 <| And.intro stAV.eq_1 <| And.intro hs <| And.intro q0 <| And.intro b4 <| And.intro b5 <| And.intro b1 <| And.intro q1 <| And.intro g0 <| And.intro g1 <| And.intro g2 <| And.intro g3 <| And.intro g4 <| hfl
        repeat (first | refine st ?_ | refine cC f0 ?_)
        exact aR
    · rw [if_pos ⟨e1, hk0⟩]
      have q1 : (0 : Int) < (K.length : Int) := by have := List.length_pos_iff.2 hk0; omega
      by_cases hm1 : manyI act K = 1
      · have hmi : ((manyI act K : Nat) : Int) = 1 := by omega
        rw [hm1]
        rcases hp with ⟨g0, g1⟩ | ⟨g0, g1, g2, g3, g4⟩
        · refine con_of_body Tryz.func88 rfl Tryz.call88 (by rw [Tryz.ntmps88]; simp) ?_
          rw [Tryz.ntmps88, Tryz.results88]
          have F := And.intro chAV.eq_1 <| And.intro stAV.eq_1 <| And.intro hs <| And.intro q0 <| And.intro b4 <| And.intro b5 <| And.intro b1 <| And.intro q1 <| And.intro hmi <| And.intro g0 <| g1
          repeat (first | refine st ?_ | refine cC f0 ?_ | refine cC f1 ?_)
          exact aR
        · refine con_of_body Tryz.func88 rfl Tryz.call88 (by rw [Tryz.ntmps88]; simp) ?_
          rw [Tryz.ntmps88, Tryz.results88]
          have F := And.intro chAV.eq_1 <| And.intro stAV.eq_1 <| And.intro hs <| And.intro q0 <| And.intro b4 <| And.intro b5 <| And.intro b1 <| And.intro q1 <| And.intro hmi <| And.intro g0 <| And.intro g1 <| And.intro g2 <| And.intro g3 <| And.intro g4 <| hfl
          repeat (first | refine st ?_ | refine cC f0 ?_ | refine cC f1 ?_)
          exact aR
      · have hmi : (((manyI act K : Nat) : Int) != 1) = true := by simp; omega
        have hmb : (manyI act K == 1) = false := by simpa using hm1
        rw [hmb]
        refine con_of_body Tryz.func88 rfl Tryz.call88 (by rw [Tryz.ntmps88]; simp) ?_
        rw [Tryz.ntmps88, Tryz.results88]
        have F := And.intro chAV.eq_1 <| And.intro stAV.eq_1 <| And.intro hs <| And.intro q0 <| And.intro b4 <| And.intro b5 <| And.intro b1 <| And.intro q1 <| hmi
        repeat (first | refine st ?_ | refine cC f0 ?_ | refine cC f1 ?_)
        exact aR
  have b1 : (s.kind == 1) = false := by simpa using e1
  rw [if_neg (fun e => e1 e.1)]
  by_cases e2 : s.kind = 2
  · have b2 : (s.kind == 2) = true := by simpa using e2
    rw [if_pos e2]
    by_cases hm1 : manyI act K = K.length
    · have hmi : (((manyI act K : Nat) : Int) != (K.length : Int)) = false := by simp; omega
      rw [hm1]
      rcases hp with ⟨g0, g1⟩ | ⟨g0, g1, g2, g3, g4⟩
      · refine con_of_body Tryz.func88 rfl Tryz.call88 (by rw [Tryz.ntmps88]; simp) ?_
        rw [Tryz.ntmps88, Tryz.results88]
        have F := And.intro chAV.eq_1 <| And.intro stAV.eq_1 <| And.intro hs <| And.intro q0 <| And.intro b4 <| And.intro b5 <| And.intro b1 <| And.intro b2 <| And.intro hmi <| And.intro g0 <| g1
        repeat (first | refine st ?_ | refine cC f0 ?_ | refine cC f1 ?_)
        exact aR
      · refine con_of_body Tryz.func88 rfl Tryz.call88 (by rw [Tryz.ntmps88]; simp) ?_
        rw [Tryz.ntmps88, Tryz.results88]
        have F := And.intro chAV.eq_1 <| And.intro stAV.eq_1 <| And.intro hs <| And.intro q0 <| And.intro b4 <| And.intro b5 <| And.intro b1 <| And.intro b2 <| And.intro hmi <| And.intro g0 <| And.intro g1 <| And.intro g2 <| And.intro g3 <| And.intro g4 <| hfl
        repeat (first | refine st ?_ | refine cC f0 ?_ | refine cC f1 ?_)
        exact aR
    · have hmi : (((manyI act K : Nat) : Int) != (K.length : Int)) = true := by simp; omega
      have hmb : (manyI act K == K.length) = false := by simpa using hm1
      rw [hmb]
      refine con_of_body Tryz.func88 rfl Tryz.call88 (by rw [Tryz.ntmps88]; simp) ?_
      rw [Tryz.ntmps88, Tryz.results88]
      have F := And.intro chAV.eq_1 <| And.intro stAV.eq_1 <| And.intro hs <| And.intro q0 <| And.intro b4 <| And.intro b5 <| And.intro b1 <| And.intro b2 <| hmi
      repeat (first | refine st ?_ | refine cC f0 ?_ | refine cC f1 ?_)
      exact aR
  · have b2 : (s.kind == 2) = false := by simpa using e2
    rw [if_neg e2]
    rcases hp with ⟨g0, g1⟩ | ⟨g0, g1, g2, g3, g4⟩
    · refine con_of_body Tryz.func88 rfl Tryz.call88 (by rw [Tryz.ntmps88]; simp) ?_
      rw [Tryz.ntmps88, Tryz.results88]
      have F := And.intro chAV.eq_1 <| And.intro stAV.eq_1 <| And.intro hs <| And.intro q0 <| And.intro b4 <| And.intro b5 <| And.intro b1 <| And.intro b2 <| And.intro g0 <| g1
      repeat (first | refine st ?_ | refine cC f0 ?_)
      exact aR
    · refine con_of_body Tryz.func88 rfl Tryz.call88 (by rw [Tryz.ntmps88]; simp) ?_
      rw [Tryz.ntmps88, Tryz.results88]
      have F := And.intro chAV.eq_1 <| And.intro stAV.eq_1 <| And.intro hs <| And.intro q0 <| And.intro b4 <| And.intro b5 <| And.intro b1 <| And.intro b2 <| And.intro g0 <| And.intro g1 <| And.intro g2 <| And.intro g3 <| And.intro g4 <| hfl
      repeat (first | refine st ?_ | refine cC f0 ?_)
      exact aR
theorem bad29_con (env : Env) (a1 a8 : Addr) (he : ChEnv env a1 a8) (p : Int) (hp : -1 ≤ p) : Con Tryz.prog env 89 [I p] (errV p (sentV a1)) := by
  have g1 := gt_at he.e1
  have f0 := fAt_con env [108, 101, 103, 97, 108, 46, 67, 104, 101, 99, 107] p a1 hp
  refine con_of_body Tryz.func89 rfl Tryz.call89 (by rw [Tryz.ntmps89]; simp) ?_
  rw [Tryz.ntmps89, Tryz.results89]
  have F := g1
  repeat (first | refine st ?_ | refine cC f0 ?_)
  exact aR
def chkE (a1 : Addr) (c : ChD) (act : List Int) : AV := if lgB c act = true then nilE else errV (lgChk c act).2 (sentV a1)
theorem chkE_bad {a1 : Addr} {c : ChD} {act : List Int} {p : Int} (h : lgChk c act = (1, p)) : chkE a1 c act = errV p (sentV a1) := by
  unfold chkE lgB
  rw [h]
  rfl
theorem chkE_ok {a1 : Addr} {c : ChD} {act : List Int} {p : Int} (h : lgChk c act = (0, p)) : chkE a1 c act = nilE := by
  unfold chkE lgB
  rw [h]
  rfl
theorem lgChk_bad {c : ChD} {act : List Int} {j : Nat} {x : Int} (hx : act[j]? = some x) (hall : ∀ m, m < j → lgAt c act m = true) (hb : lgAt c act j = false) (h1 : -1 ≤ x) : lgChk c act = (1, x) := by
  have hj := (List.getElem?_eq_some_iff.1 hx).1
  unfold lgChk
  rw [firstBad_at hj hall hb]
  simp only [List.getD_eq_getElem?_getD, hx, Option.getD_some]
  rw [show max x (-1) = x by omega]
theorem lgAt_is {c : ChD} {act : List Int} {j : Nat} {x : Int} (hx : act[j]? = some x) : lgAt c act j = ((j == 0 || decide (act.getD (j - 1) 0 < x)) && fitI c act x) := by unfold lgAt; rw [hx]
theorem fitI_nat {c : ChD} {act : List Int} {k : Nat} {s : StD} (hs : c.states[k]? = some s) : fitI c act (k : Int) = fitB c act k s := by
  unfold fitI
  rw [at_nat, hs]
  rfl
theorem fitI_out {c : ChD} {act : List Int} {x : Int} (hz : inZ c x = false) : fitI c act x = false := by
  unfold fitI at_
  unfold inZ at hz
  by_cases h0 : 0 ≤ x
  · rw [if_pos h0]
    rw [decide_eq_true h0, Bool.true_and, decide_eq_false_iff_not] at hz
    rw [List.getElem?_eq_none (by omega)]
  · rw [if_neg h0]
end Go.Proofs.YthffdneigmbgfaaGreatDoor
