/- The law TableClosed. -/
import Derived.Test.YthffdneigmbgfaaGreatDoorM23
import Derived.Test.YthffdneigmbgfaaGreatDoorM33
import Derived.Test.YthffdneigmbgfaaGreatDoorM7
namespace Go.Proofs.YthffdneigmbgfaaGreatDoor
open Go.RowKit
def parB (c : ChD) (i : Int) : Bool := match at_ c i with
  | some s => s.kind == 2
  | none => false
def sumG (g : Nat → Nat) (ks : List Nat) : Nat := ks.foldl (fun a k => min (a + g k) 2147483647) 0
def mulG (g : Nat → Nat) (ks : List Nat) : Nat := ks.foldl (fun a k => min (a * g k) 2147483647) 1
theorem sum_more {g : Nat → Nat} {ks : List Nat} {j k : Nat} (hk : ks[j]? = some k) : sumG g (ks.take (j + 1)) = min (sumG g (ks.take j) + g k) 2147483647 := by
  unfold sumG
  rw [List.take_add_one, hk, List.foldl_append]
  rfl
theorem mul_more {g : Nat → Nat} {ks : List Nat} {j k : Nat} (hk : ks[j]? = some k) : mulG g (ks.take (j + 1)) = min (mulG g (ks.take j) * g k) 2147483647 := by
  unfold mulG
  rw [List.take_add_one, hk, List.foldl_append]
  rfl
theorem foldl_same {α β : Type} {f g : α → β → α} : ∀ {l : List β} {a : α}, (∀ a, ∀ x ∈ l, f a x = g a x) → l.foldl f a = l.foldl g a
  | [], _, _ => rfl
  | x :: l, a, h => by
    rw [List.foldl_cons, List.foldl_cons, h a x (by simp)]
    exact foldl_same fun a y hy => h a y (List.mem_cons_of_mem _ hy)
theorem sum_same {g g' : Nat → Nat} {ks : List Nat} (h : ∀ k ∈ ks, g k = g' k) : sumG g ks = sumG g' ks := foldl_same fun a k hk => by rw [h k hk]
theorem mul_same {g g' : Nat → Nat} {ks : List Nat} (h : ∀ k ∈ ks, g k = g' k) : mulG g ks = mulG g' ks := foldl_same fun a k hk => by rw [h k hk]
def sumN (g : Nat → Nat) : List Nat → Nat
  | [] => 0
  | k :: ks => g k + sumN g ks
def prodN (g : Nat → Nat) : List Nat → Nat
  | [] => 1
  | k :: ks => g k * prodN g ks
theorem prod_pos {g : Nat → Nat} : ∀ {ks : List Nat}, (∀ k ∈ ks, 1 ≤ g k) → 1 ≤ prodN g ks
  | [], _ => Nat.le_refl 1
  | k :: ks, h => Nat.mul_pos (h k (by simp)) (prod_pos fun x hx => h x (List.mem_cons_of_mem _ hx))
theorem fold_sum {g : Nat → Nat} : ∀ (ks : List Nat) (a : Nat), a ≤ 2147483647 → ks.foldl (fun a k => min (a + g k) 2147483647) a = min (a + sumN g ks) 2147483647
  | [], a, h => by simp only [List.foldl_nil, sumN]; omega
  | k :: ks, a, h => by
    rw [List.foldl_cons, fold_sum ks _ (by omega)]
    simp only [sumN]
    omega
theorem fold_mul {g : Nat → Nat} : ∀ (ks : List Nat) (a : Nat), 1 ≤ a → a ≤ 2147483647 → (∀ k ∈ ks, 1 ≤ g k) → ks.foldl (fun a k => min (a * g k) 2147483647) a = min (a * prodN g ks) 2147483647
  | [], a, h1, h2, _ => by simp only [List.foldl_nil, prodN]; omega
  | k :: ks, a, h1, h2, hg => by
    have hk := hg k (by simp)
    have hp := prod_pos fun x hx => hg x (List.mem_cons_of_mem _ hx)
    have h3 : 1 ≤ a * g k := Nat.mul_pos h1 hk
    rw [List.foldl_cons, fold_mul ks _ (by omega) (by omega) fun x hx => hg x (List.mem_cons_of_mem _ hx)]
    simp only [prodN]
    rw [← Nat.mul_assoc]
    by_cases e : a * g k ≤ 2147483647
    · rw [Nat.min_eq_left e]
    · rw [show min (a * g k) 2147483647 = 2147483647 by omega]
      have h4 : 2147483647 ≤ 2147483647 * prodN g ks := Nat.le_mul_of_pos_right _ hp
      have h5 : a * g k ≤ a * g k * prodN g ks := Nat.le_mul_of_pos_right _ hp
      omega
theorem sum_is (g : Nat → Nat) (ks : List Nat) : sumG g ks = min (sumN g ks) 2147483647 := by
  unfold sumG
  rw [fold_sum ks 0 (by omega), Nat.zero_add]
theorem mul_is {g : Nat → Nat} {ks : List Nat} (h : ∀ k ∈ ks, 1 ≤ g k) : mulG g ks = min (prodN g ks) 2147483647 := by
  unfold mulG
  rw [fold_mul ks 1 (by omega) (by omega) h, Nat.one_mul]
theorem sum_ge {g : Nat → Nat} : ∀ {ks : List Nat} {k : Nat}, k ∈ ks → g k ≤ sumN g ks
  | x :: ks, k, h => by
    simp only [sumN]
    rcases List.mem_cons.1 h with rfl | h
    · omega
    · have := sum_ge (g := g) h
      omega
def cntF (c : ChD) : Nat → Int → Nat
  | 0, _ => 1
  | f + 1, i => if kidsL c i true = [] then 1 else if parB c i = true then mulG (fun k => cntF c f k) (kidsL c i true) else sumG (fun k => cntF c f k) (kidsL c i true)
def cntN (c : ChD) (i : Int) : Nat := cntF c 40 i
theorem kids_past {c : ChD} (h : Right c) {i : Int} (hi : (c.states.length : Int) ≤ i + 1) : kidsL c i true = [] := List.eq_nil_iff_forall_not_mem.2 fun k hk => by have := kid_gt h (kid_real hk).1; omega
theorem cnt_fuel {c : ChD} (h : Right c) : ∀ (f g : Nat) (i : Int), (c.states.length : Int) ≤ i + f → (c.states.length : Int) ≤ i + g → cntF c f i = cntF c g i := by
  have none : ∀ (g : Nat) (i : Int), (c.states.length : Int) ≤ i → cntF c g i = 1 := fun g i hi => by
    cases g with
    | zero => rfl
    | succ g => unfold cntF; rw [if_pos (kids_past h (by omega))]
  intro f
  induction f with
  | zero => intro g i h1 h2; rw [none g i (by omega)]; rfl
  | succ f ih =>
    intro g i h1 h2
    cases g with
    | zero => rw [none (f + 1) i (by omega)]; rfl
    | succ g =>
      have e : ∀ k ∈ kidsL c i true, cntF c f k = cntF c g k := fun k hk => by
        have := kid_gt h (kid_real hk).1
        exact ih g k (by omega) (by omega)
      unfold cntF
      rw [sum_same e, mul_same e]
theorem cnt_eq {c : ChD} (h : Right c) {i : Int} (_hi : -1 ≤ i) : cntN c i = if kidsL c i true = [] then 1 else if parB c i = true then mulG (fun k => cntN c k) (kidsL c i true) else sumG (fun k => cntN c k) (kidsL c i true) := by
  have hf := h.few
  have e : ∀ k ∈ kidsL c i true, cntF c 39 k = cntN c k := fun k hk => by
    have := kid_gt h (kid_real hk).1
    exact cnt_fuel h 39 40 k (by omega) (by omega)
  show (if kidsL c i true = [] then 1 else if parB c i = true then mulG (fun k => cntF c 39 k) (kidsL c i true) else sumG (fun k => cntF c 39 k) (kidsL c i true)) = _
  rw [sum_same e, mul_same e]
theorem cnt_pos {c : ChD} (h : Right c) : ∀ (n : Nat) (i : Int), -1 ≤ i → (c.states.length : Int) ≤ i + n → 1 ≤ cntN c i ∧ cntN c i ≤ 2147483647
  | 0, i, hi, hn => by
    rw [cnt_eq h hi, if_pos (kids_past h (by omega))]
    omega
  | n + 1, i, hi, hn => by
    rw [cnt_eq h hi]
    have hk : ∀ k ∈ kidsL c i true, 1 ≤ cntN c k := fun k hk => by
      have := kid_gt h (kid_real hk).1
      exact (cnt_pos h n k (by omega) (by omega)).1
    split
    · omega
    · rename_i e
      split
      · rw [mul_is hk]
        have := prod_pos hk
        omega
      · rw [sum_is]
        obtain ⟨k, hm⟩ := List.exists_mem_of_ne_nil _ e
        have h1 := hk k hm
        have := sum_ge (g := fun k : Nat => cntN c k) hm
        omega
theorem cnt_ok {c : ChD} (h : Right c) {i : Int} (hi : -1 ≤ i) : 1 ≤ cntN c i ∧ cntN c i ≤ 2147483647 := cnt_pos h 40 i hi (by have := h.few; omega)
theorem cnt_kid {c : ChD} (h : Right c) {i : Int} {k : Nat} (hk : k ∈ kidsL c i true) (_hi : -1 ≤ i) : 1 ≤ cntN c k ∧ cntN c k ≤ 2147483647 := by
  have := kid_gt h (kid_real hk).1
  exact cnt_ok h (by omega)
/-! The n-th ones -/
end Go.Proofs.YthffdneigmbgfaaGreatDoor
namespace Go.Proofs.YthffdneigmbgfaaGreatDoor
open Go.RowKit
def riseL (c : ChD) (l : List Nat) : List Nat := (List.range c.states.length).filter fun k => inL l (k : Int)
theorem inL_mem {l : List Nat} {k : Nat} : inL l (k : Int) = true ↔ k ∈ l := by
  rw [inL_iff]
  constructor
  · rintro ⟨j, h1, h2⟩
    have : j = k := by omega
    exact this ▸ h1
  · exact fun h => ⟨k, h, rfl⟩
theorem rise_mem {c : ChD} {l : List Nat} {k : Nat} : k ∈ riseL c l ↔ k < c.states.length ∧ k ∈ l := by
  unfold riseL
  rw [List.mem_filter, List.mem_range, inL_mem]
theorem par_kind {c : ChD} {k : Nat} {s : StD} (hs : c.states[k]? = some s) : parB c k = (s.kind == 2) := by unfold parB; rw [at_nat, hs]
/-! One more is none -/
end Go.Proofs.YthffdneigmbgfaaGreatDoor
set_option linter.unusedSimpArgs false
namespace Go.Proofs.YthffdneigmbgfaaGreatDoor
open Go.RowKit
set_option maxRecDepth 100000
set_option maxHeartbeats 8000000
theorem many_more {l ks : List Nat} {j k : Nat} (hk : ks[j]? = some k) : manyI (zL l) (ks.take (j + 1)) = manyI (zL l) (ks.take j) + if inL l (k : Int) = true then 1 else 0 := by
  have e : (zL l).contains (k : Int) = inL l (k : Int) := by
    cases h : inL l (k : Int) with
    | true => exact zL_mem.2 (inL_mem.1 h)
    | false =>
      cases h2 : (zL l).contains (k : Int) with
      | false => rfl
      | true => rw [inL_mem.2 (zL_mem.1 h2)] at h; cases h
  unfold manyI
  rw [List.take_add_one, hk, List.filter_append, List.length_append]
  simp only [Option.toList_some, List.filter_cons, List.filter_nil, e]
  split <;> rfl
theorem closed_par {c : ChD} (h : Full c) {i m : Nat} (hi : i < c.states.length) (hm : m ∈ sbL c i) (hne : m ≠ i) {s : StD} (hs : c.states[m]? = some s) : inL (sbL c i) s.parent = true := by
  obtain ⟨p, h1, h2⟩ := bg_parent h hi ((sb_mem h hi).1 hm) hne
  rw [par_nat hs] at h1
  rw [h1]
  exact inL_mem.2 ((sb_mem h hi).2 h2)
theorem closed_two {c : ChD} (h : Full c) {i m : Nat} (hi : i < c.states.length) (hm : m ∈ sbL c i) {s : StD} (hs : c.states[m]? = some s) (e : s.kind = 2) : manyI (zL (sbL c i)) (kidsL c m true) = (kidsL c m true).length :=
  many_all fun _ hj => (sb_mem h hi).2 ((bg_kid_iff h hi ((sb_mem h hi).1 hm) hs hj).2 (.inl e))
theorem closed_one {c : ChD} (h : Full c) {i m : Nat} (hi : i < c.states.length) (hm : m ∈ sbL c i) {s : StD} (hs : c.states[m]? = some s) (e : s.kind = 1) : manyI (zL (sbL c i)) (kidsL c m true) = min (kidsL c m true).length 1 := by
  have hk2 : ∀ j ∈ kidsL c m true, (j ∈ sbL c i ↔ s.kind = 2 ∨ s.initial = (j : Nat)) := fun j hj => (sb_mem h hi).trans (bg_kid_iff h hi ((sb_mem h hi).1 hm) hs hj)
  rcases h.cases hs with ⟨_, ⟨e1, _⟩ | ⟨j, hj, e1⟩⟩ | ⟨e1, _⟩ | ⟨e1, _⟩ | ⟨e1, _⟩
  · rw [e1]; rfl
  · rw [many_one (kidsL_nodup ..) hj fun x hx => (hk2 x hx).trans ⟨fun q => q.elim (fun q => by omega) fun q => by omega, fun q => .inr (by rw [q]; exact e1)⟩]
    have := List.length_pos_of_mem hj
    omega
  · omega
  · omega
  · omega
theorem lawTableClosed_con (env : Env) (a1 a8 : Addr) (he : ChEnv env a1 a8) (hT : ∀ W, env.inv W → TabAt W) (c : ChD) (hcf : few_ch c) (i : Int) : Con Tryz.prog env 4 [.agg (chAV c), I i] (B true) := by
  have fa := awake28_con env a1 a8 he hT
  have fr := rests28_con env c
  cases hg : goodB c with
  | false =>
    rw [hg] at fr
    have fm := made28_none env c hg
    refine con_of_body Tryz.func4 rfl Tryz.call4 (by rw [Tryz.ntmps4]; simp) ?_
    rw [Tryz.ntmps4, Tryz.results4]
    have F := chAV.eq_1
    repeat (first | refine st ?_ | refine cC fm ?_ | refine cC fr ?_ | refine cC fa ?_)
    exact aR
  | true =>
    have h := good_full hg
    have hlen := h.few
    have fm := made28_con env a1 a8 he hT c hcf hg
    have f0 := rIs_con env c i
    cases hz : inZ c i with
    | false =>
      rw [hz] at f0
      unfold tabAV at fm
      refine con_of_body Tryz.func4 rfl Tryz.call4 (by rw [Tryz.ntmps4]; simp) ?_
      rw [Tryz.ntmps4, Tryz.results4]
      have F := chAV.eq_1
      repeat (first | refine st ?_ | refine cC fm ?_ | refine cC fr ?_ | refine cC fa ?_ | refine cC f0 ?_)
      exact aR
    | true =>
      obtain ⟨k, t, rfl, ht, ha⟩ := at_in hz
      have hi := (List.getElem?_eq_some_iff.1 ht).1
      rw [hz] at f0
      have f1 := tabBegin_con env c h k
      have hb : tbegL c k = sbL c k := by
        unfold tbegL
        have e : ¬ ((k : Nat) : Int) = -1 := by omega
        rw [if_neg e, hz, if_pos rfl, Int.toNat_natCast]
      rw [hb] at f1
      have hLl := sb_len h k
      have hLm : ∀ m ∈ sbL c k, m < c.states.length := fun m hm => (bg_in h c.states.length k m hi (by omega) ((sb_mem h hi).1 hm)).2
      have f2 := rIn_con env (sbL c k) k (by omega)
      rw [show inL (sbL c k) (k : Nat) = true from inL_mem.2 ((sb_mem h hi).2 (bg_self h hi))] at f2
      have hP : ∀ m ∈ sbL c k, m ≠ k → ∀ s, c.states[m]? = some s → inL (sbL c k) s.parent = true := fun m hm hne s hs => closed_par h hi hm hne hs
      have hT2 : ∀ m ∈ sbL c k, ∀ s, c.states[m]? = some s → s.kind = 2 → manyI (zL (sbL c k)) (kidsL c m true) = (kidsL c m true).length := fun m hm s hs e => closed_two h hi hm hs e
      have hT1 : ∀ m ∈ sbL c k, ∀ s, c.states[m]? = some s → s.kind = 1 → manyI (zL (sbL c k)) (kidsL c m true) = min (kidsL c m true).length 1 := fun m hm s hs e => closed_one h hi hm hs e
      try clear hb hT
      unfold tabAV at fm f1
      generalize sbL c k = L at *
      refine con_of_body Tryz.func4 rfl Tryz.call4 (by rw [Tryz.ntmps4]; simp) ?_
      rw [Tryz.ntmps4, Tryz.results4]
      have F := chAV.eq_1
      repeat (first | refine st ?_ | refine cC fm ?_ | refine cC fr ?_ | refine cC fa ?_ | refine cC f0 ?_ | refine cC f1 ?_ | refine cC f2 ?_)
      refine awp_loopH (D := Nat) (fun n vs => [(1, I k), (2, .loc 2 (vs 2) 0 0), (5, .ref 9 [tabCells c] 0 0), (6, .row 33 (vs 33)), (7, I n)]) (fun _ _ => [(2, ⟨5, [chAV c], 26, false⟩), (33, ⟨1, L.map natAV, 3, true⟩)]) (fun n _ _ => n ≤ L.length) (fun n => L.length - n) 0 ?_ ?_ ?_ ?_
      · exact Nat.zero_le _
      · (simp only [go_sem, F])
      · have F := chAV.eq_1
        (simp only [go_sem, F])
        try rfl
      rintro n ws esc hn
      by_cases hlt : n < L.length
      · obtain ⟨m, hm⟩ : ∃ m, L[n]? = some m := ⟨L[n], List.getElem?_eq_getElem hlt⟩
        have hmem := List.mem_of_getElem? hm
        have hml := hLm m hmem
        obtain ⟨s, hs⟩ : ∃ s, c.states[m]? = some s := ⟨c.states[m], List.getElem?_eq_getElem hml⟩
        have q1 := nlt hlt
        have q2 := wrap_succ hlt (by omega)
        have q0 : ((m : Nat) : Int) < (c.states.length : Int) := by omega
        have f3 := rIn_con env L s.parent (by omega)
        have f4 := tabReal_con env c h m
        rw [if_pos (.inr (inZ_nat.2 hml))] at f4
        unfold tabAV at f4
        have hK := kids_few h.toRight m true
        have h2 := hT2 m hmem s hs
        have h1 := hT1 m hmem s hs
        have h0 : ((m : Int) != k) = true → inL L s.parent = true := fun q => hP m hmem (by intro e; rw [e] at q; simp at q) s hs
        generalize kidsL c m true = K at *
        have z0 : manyI (zL L) [] = 0 := rfl
        cases b1 : ((m : Int) != (k : Int)) <;>
        · rw [b1] at h0
          try rw [h0 rfl] at f3
          have F := And.intro chAV.eq_1 <| And.intro stAV.eq_1 <| And.intro natAV.eq_1 <| And.intro hm <| And.intro hs <| And.intro q0 <| And.intro q1 <| b1
          repeat (first | refine st ?_ | refine cC f3 ?_ | refine cC f4 ?_)
          refine awp_loopH (D := Nat) (fun j vs => [(1, I k), (2, .loc 2 (vs 2) 0 0), (5, .ref 9 [tabCells c] 0 0), (6, .row 33 (vs 33)), (7, I n), (8, .loc 8 (vs 8) 0 0), (9, .row 70 (vs 70)), (10, I (manyI (zL L) (K.take j) : Nat)), (11, I j)]) (fun _ _ => [(2, ⟨5, [chAV c], 26, false⟩), (33, ⟨1, L.map natAV, 3, true⟩), (8, ⟨6, [stAV s], 47, false⟩), (70, ⟨1, K.map natAV, 3, true⟩)]) (fun j _ _ => j ≤ K.length) (fun j => K.length - j) 0 ?_ ?_ ?_ ?_
          · exact Nat.zero_le _
          · have F := z0
            (simp only [go_sem, F])
          · have F := And.intro chAV.eq_1 <| stAV.eq_1
            (simp only [go_sem, F])
            try rfl
          rintro j ws2 esc2 hj
          by_cases hjl : j < K.length
          · obtain ⟨x, hx⟩ : ∃ x, K[j]? = some x := ⟨K[j], List.getElem?_eq_getElem hjl⟩
            have f5 := rIn_con env L x (by omega)
            have hmm := many_more (l := L) hx
            have r1 := nlt hjl
            have r2 := wrap_succ hjl (by omega)
            have hle := many_le (zL L) (K.take j)
            rw [List.length_take] at hle
            have r3 := wrap_succ (show manyI (zL L) (K.take j) < K.length by omega) (by omega)
            cases b5 : inL L x with
            | true =>
              rw [b5] at f5 hmm
              rw [if_pos rfl] at hmm
              have F := And.intro natAV.eq_1 <| And.intro hx <| And.intro r1 <| And.intro r2 <| r3
              repeat (first | refine st ?_ | refine cC f5 ?_)
              refine ⟨j + 1, hjl, ?_, ?_, by omega⟩
              · have F := hmm
                (simp only [go_sem, F])
              · have F := stAV.eq_1
                (simp only [go_sem, F])
            | false =>
              rw [b5] at f5 hmm
              rw [if_neg Bool.false_ne_true, Nat.add_zero] at hmm
              have F := And.intro natAV.eq_1 <| And.intro hx <| And.intro r1 <| And.intro r2 <| r3
              repeat (first | refine st ?_ | refine cC f5 ?_)
              refine ⟨j + 1, hjl, ?_, ?_, by omega⟩
              · have F := hmm
                (simp only [go_sem, F])
              · have F := stAV.eq_1
                (simp only [go_sem, F])
          · obtain rfl : j = K.length := by omega
            have r1 : ¬ (K.length : Int) < (K.length : Int) := by omega
            have hta : K.take K.length = K := List.take_length
            by_cases k2 : s.kind = 2
            · have b3 : (s.kind == 2) = true := by simpa using k2
              have b4 : (s.kind == 1) = false := by simp [k2]
              have hme := h2 k2
              have F := And.intro stAV.eq_1 <| And.intro r1 <| And.intro hta <| And.intro hme <| And.intro b3 <| And.intro b4 <| q2
              repeat refine st ?_
              refine ⟨n + 1, hlt, ?_, ?_, by omega⟩
              · (simp only [go_sem, F])
              · have F := chAV.eq_1
                (simp only [go_sem, F])
            · have b3 : (s.kind == 2) = false := by simpa using k2
              by_cases k1 : s.kind = 1
              · have b4 : (s.kind == 1) = true := by simpa using k1
                have hme := h1 k1
                by_cases hK1 : 1 < K.length
                · have hmi : ((manyI (zL L) K : Nat) : Int) = 1 := by rw [hme]; omega
                  have b6 : (1 : Int) < (K.length : Int) := by omega
                  have F := And.intro stAV.eq_1 <| And.intro r1 <| And.intro hta <| And.intro hmi <| And.intro b3 <| And.intro b4 <| And.intro b6 <| q2
                  repeat refine st ?_
                  refine ⟨n + 1, hlt, ?_, ?_, by omega⟩
                  · (simp only [go_sem, F])
                  · have F := chAV.eq_1
                    (simp only [go_sem, F])
                · have hmi : manyI (zL L) K = K.length := by rw [hme]; omega
                  have b6 : ¬ (1 : Int) < (K.length : Int) := by omega
                  have F := And.intro stAV.eq_1 <| And.intro r1 <| And.intro hta <| And.intro hmi <| And.intro b3 <| And.intro b4 <| And.intro b6 <| q2
                  repeat refine st ?_
                  refine ⟨n + 1, hlt, ?_, ?_, by omega⟩
                  · (simp only [go_sem, F])
                  · have F := chAV.eq_1
                    (simp only [go_sem, F])
              · have b4 : (s.kind == 1) = false := by simpa using k1
                have F := And.intro stAV.eq_1 <| And.intro r1 <| And.intro b3 <| And.intro b4 <| q2
                repeat refine st ?_
                refine ⟨n + 1, hlt, ?_, ?_, by omega⟩
                · (simp only [go_sem, F])
                · have F := chAV.eq_1
                  (simp only [go_sem, F])
      · obtain rfl : n = L.length := by omega
        have q1 : ¬ (L.length : Int) < (L.length : Int) := by omega
        have F := q1
        repeat (first | refine st ?_ | refine cC fa ?_)
        exact aR
end Go.Proofs.YthffdneigmbgfaaGreatDoor
