/- slices.BinarySearch at strings. -/
import Derived.Test.YthffdneigmbgfaaGreatDoorM21
import Derived.Test.YthffdneigmbgfaaGreatDoorM13
import Derived.Test.YthffdneigmbgfaaGreatDoorM7
set_option linter.unusedSimpArgs false
namespace Go.Proofs.YthffdneigmbgfaaGreatDoor
open Go.RowKit
abbrev Str8 := List UInt8
abbrev SL (a b : Str8) : Prop := Op.bytesLess a b = true
/-! Texts in the order of bytes -/
theorem bl_lt : ∀ (x y : Str8), Op.bytesLess x y = decide (x < y)
  | [], [] => by simp [Op.bytesLess]
  | _ :: _, [] => by simp [Op.bytesLess]
  | [], _ :: _ => by simp [Op.bytesLess]
  | a :: x, b :: y => by
    rw [Op.bytesLess, bl_lt x y]
    simp only [List.cons_lt_cons_iff]
    by_cases h1 : a < b <;> by_cases h2 : a = b <;> by_cases h3 : x < y <;> simp [h1, h2, h3]
theorem bl_le (x y : Str8) : decide (x ≤ y) = !Op.bytesLess y x := by
  rw [bl_lt, ← decide_not]
  rfl
theorem bl_ge_trans {a b c : Str8} (h1 : Op.bytesLess b a = false) (h2 : Op.bytesLess c b = false) : Op.bytesLess c a = false := by
  cases k : Op.bytesLess c a
  · rfl
  · cases k3 : Op.bytesLess a b
    · rw [← bl_total k3 h1, k] at h2; cases h2
    · rw [bl_trans k k3] at h2; cases h2
theorem sortB_le (l : List Str8) : (sortB l).Pairwise fun a b => Op.bytesLess b a = false := by
  have := List.pairwise_mergeSort (le := fun x y : Str8 => decide (x ≤ y)) (fun a b c hab hbc => by
      simp only [bl_le, Bool.not_eq_true'] at *
      exact bl_ge_trans hab hbc) (fun a b => by
      simp only [bl_le]
      cases k : Op.bytesLess b a
      · simp
      · rw [bl_asymm k]; simp) l
  exact this.imp fun {a b} h => by simpa [bl_le] using h
theorem sortB_mem {l : List Str8} {x : Str8} : x ∈ sortB l ↔ x ∈ l := List.mem_mergeSort
theorem comp_spec (l : List Str8) (hs : l.Pairwise fun a b => Op.bytesLess b a = false) : ∀ m, m ≤ l.length → (Lib.compactUpTo l.toArray m).Pairwise SL ∧ ∀ x, x ∈ Lib.compactUpTo l.toArray m ↔ x ∈ l.take m
  | 0, _ => by simp [Lib.compactUpTo]
  | m + 1, hm => by
    obtain ⟨h1, h2⟩ := comp_spec l hs m (by omega)
    have ey : l.toArray[m]! = l[m]'(by omega) := by rw [getElem!_pos _ m (by simp; omega)]; rfl
    have et : l.take (m + 1) = l.take m ++ [l[m]'(by omega)] := by rw [List.take_add_one, List.getElem?_eq_getElem (by omega)]; rfl
    have hle : ∀ k (hk : k < m), Op.bytesLess (l[m]'(by omega)) (l[k]'(by omega)) = false := fun k hk => List.pairwise_iff_getElem.1 hs k m (by omega) (by omega) hk
    rw [Lib.compactUpTo_succ, ey]
    by_cases hk : Lib.keeps l.toArray m = true
    · rw [if_pos hk]
      refine ⟨List.pairwise_append.2 ⟨h1, List.pairwise_singleton .., fun x hx y hy => ?_⟩, fun x => by rw [et, List.mem_append, List.mem_append, h2]⟩
      rw [List.mem_singleton.1 hy]
      rw [h2, List.mem_take_iff_getElem] at hx
      obtain ⟨k, hk2, rfl⟩ := hx
      have hkm : k < m := by omega
      show Op.bytesLess _ _ = true
      cases hq : Op.bytesLess (l[k]'(by omega)) (l[m]'(by omega)) with
      | true => rfl
      | false =>
        have e := bl_total hq (hle k hkm)
        exfalso
        unfold Lib.keeps at hk
        rw [decide_eq_true_eq] at hk
        rcases hk with hk | hk
        · omega
        · apply hk
          rw [ey, getElem!_pos _ (m - 1) (by simp; omega)]
          show l[m]'(by omega) = l[m - 1]'(by omega)
          have e1 := hle (m - 1) (by omega)
          by_cases ek : k = m - 1
          · subst ek; exact e.symm
          · have e2 := List.pairwise_iff_getElem.1 hs k (m - 1) (by omega) (by omega) (by omega)
            rw [e] at e2
            exact bl_total e1 e2
    · rw [if_neg hk, List.append_nil]
      refine ⟨h1, fun x => ?_⟩
      rw [h2, et, List.mem_append, List.mem_singleton]
      refine ⟨.inl, fun h => h.elim id fun h => ?_⟩
      unfold Lib.keeps at hk
      rw [decide_eq_true_eq, not_or, Classical.not_not, ey, getElem!_pos _ (m - 1) (by simp; omega)] at hk
      rw [h, hk.2]
      exact List.mem_take_iff_getElem.2 ⟨m - 1, by omega, rfl⟩
theorem ev_pair (c : ChD) : (evL c).Pairwise SL := (comp_spec _ (sortB_le _) _ (Nat.le_refl _)).1
theorem ev_mem {c : ChD} {s : Str8} : s ∈ evL c ↔ s ≠ [] ∧ ∃ t ∈ c.trans, t.event = s := by
  unfold evL Lib.compact
  rw [(comp_spec _ (sortB_le _) _ (Nat.le_refl _)).2, List.take_length, sortB_mem]
  unfold namedTo
  rw [List.take_length, List.mem_filter, List.mem_map]
  constructor
  · rintro ⟨⟨t, h1, h2⟩, h3⟩
    exact ⟨by simpa using h3, t, h1, h2⟩
  · rintro ⟨h, t, h1, h2⟩
    exact ⟨⟨t, h1, h2⟩, by simpa using h⟩
theorem evL_len (c : ChD) : (evL c).length ≤ c.trans.length := by
  have h1 : (Lib.compact (sortB (namedTo c c.trans.length))).length ≤ (sortB (namedTo c c.trans.length)).length := by
    unfold Lib.compact Lib.compactUpTo
    rw [List.length_map]
    exact Nat.le_trans (List.length_filter_le ..) (by simp)
  have h2 := named_len c c.trans.length
  unfold evL
  have h3 : (sortB (namedTo c c.trans.length)).length = (namedTo c c.trans.length).length := by simp [sortB]
  omega
/-! Where a text stands, or would stand -/
def posL (l : List Str8) (x : Str8) : Nat := (l.filter fun y => Op.bytesLess y x).length
def Cut (l : List Str8) (x : Str8) (p : Nat) : Prop := p ≤ l.length ∧ ∀ k y, l[k]? = some y → (Op.bytesLess y x = true ↔ k < p)
theorem pos_cut : ∀ {l : List Str8}, l.Pairwise SL → ∀ x, Cut l x (posL l x)
  | [], _, x => ⟨Nat.zero_le _, fun k y h => by simp at h⟩
  | a :: l, h, x => by
    obtain ⟨h1, h2⟩ := List.pairwise_cons.1 h
    obtain ⟨k1, k2⟩ := pos_cut h2 x
    unfold posL at *
    rw [List.filter_cons]
    by_cases ha : Op.bytesLess a x = true
    · rw [if_pos ha, List.length_cons]
      refine ⟨by simp only [List.length_cons]; omega, fun k y hk => ?_⟩
      cases k with
      | zero =>
        obtain rfl : a = y := by simpa using hk
        exact ⟨fun _ => by omega, fun _ => ha⟩
      | succ k =>
        rw [k2 k y (by simpa using hk)]
        omega
    · rw [if_neg ha]
      have hno : ∀ y ∈ l, ¬ Op.bytesLess y x = true := fun y hy hb => ha (bl_trans (h1 y hy) hb)
      have e : (l.filter fun y => Op.bytesLess y x) = [] := List.filter_eq_nil_iff.2 hno
      rw [e]
      refine ⟨Nat.zero_le _, fun k y hk => ⟨fun hb => ?_, fun hk => by simp at hk⟩⟩
      cases k with
      | zero =>
        obtain rfl : a = y := by simpa using hk
        exact absurd hb ha
      | succ k => exact absurd hb (hno y (List.mem_of_getElem? (by simpa using hk)))
theorem pos_at {l : List Str8} (h : l.Pairwise SL) {x : Str8} (hx : x ∈ l) : l[posL l x]? = some x := by
  obtain ⟨h1, h2⟩ := pos_cut h x
  obtain ⟨k, hk⟩ := List.mem_iff_getElem?.1 hx
  have h3 := (h2 k x hk)
  rw [bl_irrefl] at h3
  have h3 : ¬ k < posL l x := fun e => by simpa using h3.2 e
  have hkl := (List.getElem?_eq_some_iff.1 hk).1
  by_cases e : k = posL l x
  · rw [← e]; exact hk
  · have hp : posL l x < l.length := by omega
    have h4 := List.pairwise_iff_getElem.1 h (posL l x) k hp hkl (by omega)
    rw [(List.getElem?_eq_some_iff.1 hk).2] at h4
    have := (h2 _ _ (List.getElem?_eq_getElem hp)).1 h4
    omega
def evI (c : ChD) (s : Str8) : Int := if (evL c)[posL (evL c) s]? = some s then (posL (evL c) s : Nat) else -1
theorem evI_in {c : ChD} {s : Str8} (h : s ∈ evL c) : ∃ k : Nat, evI c s = k ∧ (evL c)[k]? = some s := ⟨posL (evL c) s, by unfold evI; rw [if_pos (pos_at (ev_pair c) h)], pos_at (ev_pair c) h⟩
theorem evI_out {c : ChD} {s : Str8} (h : s ∉ evL c) : evI c s = -1 := by
  unfold evI
  rw [if_neg fun e => h (List.mem_of_getElem? e)]
theorem evI_eq {c : ChD} {s t : Str8} (hs : s ∈ evL c) (ht : t ∈ evL c) (h : evI c s = evI c t) : s = t := by
  obtain ⟨k, h1, h2⟩ := evI_in hs
  obtain ⟨j, h3, h4⟩ := evI_in ht
  have : k = j := by omega
  subst this
  exact Option.some.inj (h2.symm.trans h4)
theorem evI_nil (c : ChD) : evI c [] = -1 := evI_out fun h => (ev_mem.1 h).1 rfl
theorem evI_range (c : ChD) (s : Str8) : -1 ≤ evI c s ∧ evI c s < (evL c).length := by
  by_cases h : s ∈ evL c
  · obtain ⟨k, h1, h2⟩ := evI_in h
    have := (List.getElem?_eq_some_iff.1 h2).1
    omega
  · rw [evI_out h]; omega
/-! A state's transitions -/
def keyAt (c : ChD) (k : Nat) : Int × Int := match c.trans[k]? with
  | some t => (t.src, evI c t.event)
  | none => (-1, -1)
def rowTo (c : ChD) (j : Nat) (p : Int × Int) : List Nat := (List.range j).filter fun k => keyAt c k = p
def keysTo (c : ChD) : Nat → List (Int × Int)
  | 0 => []
  | j + 1 => if keyAt c j ∈ keysTo c j then keysTo c j else keysTo c j ++ [keyAt c j]
def atL (c : ChD) (i e : Int) : List Nat := rowTo c c.trans.length (i, e)
theorem row_succ (c : ChD) (j : Nat) (p : Int × Int) : rowTo c (j + 1) p = if keyAt c j = p then rowTo c j p ++ [j] else rowTo c j p := by
  unfold rowTo
  rw [List.range_succ, List.filter_append]
  by_cases h : keyAt c j = p <;> simp [h]
theorem keys_mem {c : ChD} {p : Int × Int} : ∀ {j : Nat}, p ∈ keysTo c j ↔ ∃ k, k < j ∧ keyAt c k = p
  | 0 => by simp [keysTo]
  | j + 1 => by
    unfold keysTo
    split
    · rename_i h
      rw [keys_mem]
      constructor
      · rintro ⟨k, h1, h2⟩; exact ⟨k, by omega, h2⟩
      · rintro ⟨k, h1, h2⟩
        by_cases e : k = j
        · subst e; rw [← h2]; exact keys_mem.1 h
        · exact ⟨k, by omega, h2⟩
    · rw [List.mem_append, keys_mem, List.mem_singleton]
      constructor
      · rintro (⟨k, h1, h2⟩ | h)
        · exact ⟨k, by omega, h2⟩
        · exact ⟨j, by omega, h.symm⟩
      · rintro ⟨k, h1, h2⟩
        by_cases e : k = j
        · subst e; exact .inr h2.symm
        · exact .inl ⟨k, by omega, h2⟩
theorem keys_nodup (c : ChD) : ∀ j, (keysTo c j).Nodup
  | 0 => .nil
  | j + 1 => by
    unfold keysTo
    split
    · exact keys_nodup c j
    · rename_i h
      exact List.nodup_append.2 ⟨keys_nodup c j, by simp, fun a ha b hb e => h (by rw [List.mem_singleton.1 hb] at e; exact e ▸ ha)⟩
theorem row_none {c : ChD} {j : Nat} {p : Int × Int} (h : p ∉ keysTo c j) : rowTo c j p = [] := by
  unfold rowTo
  rw [List.filter_eq_nil_iff]
  intro k hk
  simp only [decide_eq_true_eq]
  exact fun e => h (keys_mem.2 ⟨k, List.mem_range.1 hk, e⟩)
theorem row_len (c : ChD) (j : Nat) (p : Int × Int) : (rowTo c j p).length ≤ j := by
  unfold rowTo
  exact Nat.le_trans (List.length_filter_le ..) (by simp)
def idxP (p : Int × Int) : List (Int × Int) → Nat → Option Nat
  | [], _ => none
  | q :: l, i => if p = q then some i else idxP p l (i + 1)
theorem idxP_some {p : Int × Int} : ∀ {l : List (Int × Int)} {i n : Nat}, idxP p l i = some n → i ≤ n ∧ l[n - i]? = some p
  | [], i, n, h => by simp [idxP] at h
  | q :: l, i, n, h => by
    unfold idxP at h
    split at h
    · rename_i e
      obtain rfl : i = n := by simpa using h
      simp [e]
    · obtain ⟨h1, h2⟩ := idxP_some h
      refine ⟨by omega, ?_⟩
      rw [show n - i = (n - (i + 1)) + 1 by omega, List.getElem?_cons_succ]
      exact h2
theorem idxP_none {p : Int × Int} : ∀ {l : List (Int × Int)} {i : Nat}, idxP p l i = none → p ∉ l
  | [], i, h => by simp
  | q :: l, i, h => by
    unfold idxP at h
    split at h
    · cases h
    · rename_i e
      rw [List.mem_cons]
      exact fun hh => hh.elim e (idxP_none h)
theorem at_ref {c : ChD} (i : Int) (s : Str8) (h : s = [] ∨ s ∈ evL c) : atL c i (evI c s) = (List.range c.trans.length).filter fun k => match c.trans[k]? with | some t => decide (t.src = i ∧ t.event = s) | none => false := by
  unfold atL rowTo
  apply List.filter_congr
  intro k hk
  have hk := List.mem_range.1 hk
  have hs : c.trans[k]? = some c.trans[k] := List.getElem?_eq_getElem hk
  unfold keyAt
  rw [hs]
  simp only [Prod.mk.injEq]
  congr 1
  generalize ht : c.trans[k] = t at *
  have htm : t ∈ c.trans := List.mem_of_getElem? hs
  apply propext
  refine and_congr_right fun _ => ⟨fun e => ?_, fun e => by rw [e]⟩
  rcases h with rfl | h
  · rw [evI_nil] at e
    by_cases hn : t.event = []
    · exact hn
    · obtain ⟨k, h1, _⟩ := evI_in (ev_mem.2 ⟨hn, t, htm, rfl⟩)
      omega
  · obtain ⟨k, h1, _⟩ := evI_in h
    by_cases hn : t.event = []
    · rw [hn, evI_nil] at e; omega
    · exact evI_eq (ev_mem.2 ⟨hn, t, htm, rfl⟩) h e
theorem at_past {c : ChD} (i e : Int) (h : (evL c).length ≤ e) : atL c i e = [] := by
  unfold atL
  apply row_none
  intro hk
  obtain ⟨k, h1, h2⟩ := keys_mem.1 hk
  unfold keyAt at h2
  rw [List.getElem?_eq_getElem h1] at h2
  have := evI_range c c.trans[k].event
  have h3 := congrArg Prod.snd h2
  simp only at h3
  omega
def ofTo (c : ChD) (i : Int) (j : Nat) : Nat := ((c.trans.take j).filter fun t => decide (t.src = i)).length
theorem sum_one (c : ChD) (i : Int) : ∀ (n m : Nat), m ≤ (evL c).length → ((List.range n).filter fun k => decide ((keyAt c k).1 = i ∧ -1 ≤ (keyAt c k).2 ∧ (keyAt c k).2 < (m : Int))).length = (rowTo c n (i, -1)).length + ((List.range m).map fun e : Nat => (rowTo c n (i, (e : Int))).length).sum
  | n, 0, _ => by
    simp only [List.range_zero, List.map_nil, List.sum_nil, Nat.add_zero]
    unfold rowTo
    congr 1
    apply List.filter_congr
    intro k _
    congr 1
    apply propext
    rw [Prod.ext_iff]
    constructor
    · rintro ⟨h1, h2, h3⟩; exact ⟨h1, by simp only; omega⟩
    · rintro ⟨h1, h2⟩
      simp only at h1 h2
      exact ⟨h1, by omega, by omega⟩
  | n, m + 1, hm => by
    have ih := sum_one c i n m (by omega)
    rw [List.range_succ (n := m), List.map_append, List.sum_append, ← Nat.add_assoc, ← ih]
    simp only [List.map_cons, List.map_nil, List.sum_cons, List.sum_nil, Nat.add_zero]
    unfold rowTo
    generalize List.range n = l
    induction l with
    | nil => rfl
    | cons k l ih2 =>
      simp only [List.filter_cons]
      by_cases h1 : (keyAt c k).1 = i
      · by_cases h2 : (keyAt c k).2 = (m : Int)
        · have e1 : keyAt c k = (i, (m : Int)) := Prod.ext h1 h2
          simp only [e1] at ih2 ⊢
          simp only [decide_true, if_true]
          rw [if_pos (by simp; omega), if_neg (by simp)]
          simp only [List.length_cons]
          omega
        · have e1 : ¬ keyAt c k = (i, (m : Int)) := fun e => h2 (congrArg Prod.snd e)
          by_cases h3 : -1 ≤ (keyAt c k).2 ∧ (keyAt c k).2 < (m : Int)
          · rw [if_pos (by simp [h1]; omega), if_pos (by simp [h1]; omega), if_neg (by simpa using e1)]
            simp only [List.length_cons]
            omega
          · rw [if_neg (by simp [h1]; omega), if_neg (by simp [h1]; omega), if_neg (by simpa using e1)]
            exact ih2
      · have e1 : ¬ keyAt c k = (i, (m : Int)) := fun e => h1 (congrArg Prod.fst e)
        rw [if_neg (by simp [h1]), if_neg (by simp [h1]), if_neg (by simpa using e1)]
        exact ih2
theorem sum_all (c : ChD) (i : Int) : (atL c i (-1)).length + ((List.range (evL c).length).map fun e : Nat => (atL c i e).length).sum = ofTo c i c.trans.length := by
  have h := sum_one c i c.trans.length (evL c).length (Nat.le_refl _)
  unfold atL
  rw [← h]
  unfold ofTo
  rw [List.take_length]
  have key : ∀ n, n ≤ c.trans.length → ((List.range n).filter fun k => decide ((keyAt c k).1 = i ∧ -1 ≤ (keyAt c k).2 ∧ (keyAt c k).2 < ((evL c).length : Int))).length = ((c.trans.take n).filter fun t => decide (t.src = i)).length := fun n => by
    induction n with
    | zero => simp
    | succ n ih =>
      intro hn
      have hs : c.trans[n]? = some c.trans[n] := List.getElem?_eq_getElem (by omega)
      rw [List.range_succ, List.filter_append, List.length_append, ih (by omega), List.take_add_one, hs, List.filter_append, List.length_append]
      congr 1
      have e : keyAt c n = (c.trans[n].src, evI c c.trans[n].event) := by unfold keyAt; rw [hs]
      have hr := evI_range c c.trans[n].event
      by_cases h1 : c.trans[n].src = i
      · rw [List.filter_cons, if_pos (decide_eq_true (show _ ∧ _ ∧ _ by rw [e]; exact ⟨h1, hr.1, hr.2⟩)), Option.toList_some, List.filter_cons, if_pos (decide_eq_true h1)]
        rfl
      · simp [e, h1]
  have := key c.trans.length (Nat.le_refl _)
  rwa [List.take_length] at this
end Go.Proofs.YthffdneigmbgfaaGreatDoor
set_option linter.unusedSimpArgs false
namespace Go.Proofs.YthffdneigmbgfaaGreatDoor
open Go.RowKit
set_option maxRecDepth 100000
set_option maxHeartbeats 4000000
theorem nan1_con (env : Env) (s : List UInt8) : Con Tryz.prog env 112 [Sg s] (B false) := by
  refine con_of_body Tryz.func112 rfl Tryz.call112 (by rw [Tryz.ntmps112]; simp) ?_
  rw [Tryz.ntmps112, Tryz.results112]
  repeat refine st0 ?_
  exact aR0
theorem nan2_con (env : Env) (s : List UInt8) : Con Tryz.prog env 149 [Sg s] (B false) := by
  refine con_of_body Tryz.func149 rfl Tryz.call149 (by rw [Tryz.ntmps149]; simp) ?_
  rw [Tryz.ntmps149, Tryz.results149]
  repeat refine st0 ?_
  exact aR0
theorem lessS_con (env : Env) (s t : List UInt8) : Con Tryz.prog env 111 [Sg s, Sg t] (B (Op.bytesLess s t)) := by
  have f0 := nan2_con env s
  refine con_of_body Tryz.func111 rfl Tryz.call111 (by rw [Tryz.ntmps111]; simp) ?_
  rw [Tryz.ntmps111, Tryz.results111]
  repeat (first | refine st0 ?_ | refine cC0 f0 ?_)
  exact aR0
theorem bsearch_con (env : Env) (l : List (List UInt8)) (x : List UInt8) (p : Nat) (hp : Cut l x p) (hl : l.length ≤ 1000000) : Con Tryz.prog env 70 [.seq 1 (l.map strAV), Sg x] (.tuple [I p, B (l[p]? == some x)]) := by
  have f0 := nan1_con env x
  refine con_of_body Tryz.func70 rfl Tryz.call70 (by rw [Tryz.ntmps70]; simp) ?_
  rw [Tryz.ntmps70, Tryz.results70]
  repeat refine st0 ?_
  refine awp_loopH (D := Nat × Nat) (fun d _ => [(0, .seq 1 (l.map strAV)), (1, Sg x), (6, I l.length), (7, I d.1), (8, I d.2)]) (fun _ _ => []) (fun d _ _ => d.1 ≤ p ∧ p ≤ d.2 ∧ d.2 ≤ l.length) (fun d => d.2 - d.1) (0, l.length) ?_ ?_ ?_ ?_
  · exact ⟨Nat.zero_le _, hp.1, Nat.le_refl _⟩
  · (simp only [go_sem])
  · (simp only [go_sem])
  rintro ⟨i, j⟩ ws esc ⟨h1, h2, h3⟩
  simp only at h1 h2 h3
  by_cases hlt : i < j
  · have g1 := nlt hlt
    have hm : (i + j) / 2 < l.length := by omega
    obtain ⟨y, hy⟩ : ∃ y, l[(i + j) / 2]? = some y := ⟨l[(i + j) / 2], List.getElem?_eq_getElem hm⟩
    have hyp := hp.2 _ _ hy
    have f1 := lessS_con env y x
    have g2 : IntKind.i64.wrap ((i : Int) + (j : Int)) = ((i + j : Nat) : Int) := by rw [wrap_in (by omega) (by omega)]; omega
    have g3 : IntKind.u64.wrap ((i + j : Nat) : Int) = ((i + j : Nat) : Int) := IntWalk.u64_in _ (by omega)
    have g4 : IntKind.i64.wrap (((i + j : Nat) : Int).fdiv (2 ^ min 1 64)) = (((i + j) / 2 : Nat) : Int) := by
      rw [show ((i + j : Nat) : Int).fdiv (2 ^ min 1 64) = (((i + j) / 2 : Nat) : Int) from (Int.ofNat_fdiv (i + j) 2).symm, wrap_in (by omega) (by omega)]
    have g5 : (((i + j) / 2 : Nat) : Int) < (l.length : Int) := by omega
    have g6 := wrap_succ (k := (i + j) / 2) (n := l.length) hm (by omega)
    generalize hmm : (i + j) / 2 = mm at *
    cases hb : Op.bytesLess y x with
    | true =>
      rw [hb] at f1 hyp
      have := hyp.1 rfl
      have F := And.intro g1 <| And.intro g2 <| And.intro g3 <| And.intro g4 <| And.intro g5 <| And.intro g6 <| And.intro hy <| strAV.eq_1
      repeat (first | refine st ?_ | refine cC f1 ?_)
      refine ⟨(mm + 1, j), ⟨?_, ?_, ?_⟩, ?_, ?_, ?_⟩
      · simp only; omega
      · exact h2
      · exact h3
      · (simp only [go_sem, F])
      · (simp only [go_sem, F])
      · simp only; omega
    | false =>
      rw [hb] at f1 hyp
      have : ¬ mm < p := fun h => by cases hyp.2 h
      have F := And.intro g1 <| And.intro g2 <| And.intro g3 <| And.intro g4 <| And.intro g5 <| And.intro g6 <| And.intro hy <| strAV.eq_1
      repeat (first | refine st ?_ | refine cC f1 ?_)
      refine ⟨(i, mm), ⟨?_, ?_, ?_⟩, ?_, ?_, ?_⟩
      · exact h1
      · simp only; omega
      · simp only; omega
      · (simp only [go_sem, F])
      · (simp only [go_sem, F])
      · simp only; omega
  · obtain rfl : i = j := by omega
    obtain rfl : i = p := by omega
    have g1 : ¬ (i : Int) < (i : Int) := by omega
    by_cases hi : i < l.length
    · have g2 := nlt hi
      obtain ⟨y, hy⟩ : ∃ y, l[i]? = some y := ⟨l[i], List.getElem?_eq_getElem hi⟩
      have f1 := nan1_con env y
      cases hb : (y == x) with
      | true =>
        have hr : (l[i]? == some x) = true := by rw [hy]; simpa using hb
        rw [hr]
        have F := And.intro g1 <| And.intro g2 <| And.intro hy <| And.intro hb <| strAV.eq_1
        repeat (first | refine st ?_ | refine cC f0 ?_ | refine cC f1 ?_)
        exact aR
      | false =>
        have hr : (l[i]? == some x) = false := by rw [hy]; simpa using hb
        rw [hr]
        have F := And.intro g1 <| And.intro g2 <| And.intro hy <| And.intro hb <| strAV.eq_1
        repeat (first | refine st ?_ | refine cC f0 ?_ | refine cC f1 ?_)
        exact aR
    · have g2 : ¬ (i : Int) < (l.length : Int) := by omega
      have hr : (l[i]? == some x) = false := by rw [List.getElem?_eq_none (by omega)]; rfl
      rw [hr]
      have F := And.intro g1 <| And.intro g2 <| strAV.eq_1
      repeat (first | refine st ?_ | refine cC f0 ?_)
      exact aR
end Go.Proofs.YthffdneigmbgfaaGreatDoor
