/- States that may be active together, plain; what is active at first. No program is named here. -/
import Derived.Test.YtlmekdfleciejaaGreatDoorM30
import Derived.Test.YtlmekdfleciejaaGreatDoorM17
import Derived.Test.YtlmekdfleciejaaGreatDoorM8
set_option linter.unusedSimpArgs false
namespace Go.Proofs.YtlmekdfleciejaaGreatDoor
open Go.RowKit
abbrev Str8 := List UInt8
abbrev SL (a b : Str8) : Prop := Op.bytesLess a b = true
/-! Texts in the order of bytes -/
theorem bl_lt : ∀ (x y : Str8), Op.bytesLess x y = decide (x < y)
  | [], [] => by simp [Op.bytesLess]
  | _ :: _, [] => by simp [Op.bytesLess]
  | [], _ :: _ => by simp [Op.bytesLess]
  | a :: x, b :: y => by
    rw [Op.bytesLess, bl_lt x y]
    simp only [List.cons_lt_cons_iff]
    by_cases h1 : a < b <;> by_cases h2 : a = b <;> by_cases h3 : x < y <;> simp [h1, h2, h3]
theorem bl_le (x y : Str8) : decide (x ≤ y) = !Op.bytesLess y x := by
  rw [bl_lt, ← decide_not]
  rfl
theorem bl_ge_trans {a b c : Str8} (h1 : Op.bytesLess b a = false) (h2 : Op.bytesLess c b = false) : Op.bytesLess c a = false := by
  cases k : Op.bytesLess c a
  · rfl
  · cases k3 : Op.bytesLess a b
    · rw [← bl_total k3 h1, k] at h2; cases h2
    · rw [bl_trans k k3] at h2; cases h2
theorem sortB_le (l : List Str8) : (sortB l).Pairwise fun a b => Op.bytesLess b a = false := by
  have := List.pairwise_mergeSort (le := fun x y : Str8 => decide (x ≤ y)) (fun a b c hab hbc => by
      simp only [bl_le, Bool.not_eq_true'] at *
      exact bl_ge_trans hab hbc) (fun a b => by
      simp only [bl_le]
      cases k : Op.bytesLess b a
      · simp
      · rw [bl_asymm k]; simp) l
  exact this.imp fun {a b} h => by simpa [bl_le] using h
theorem sortB_mem {l : List Str8} {x : Str8} : x ∈ sortB l ↔ x ∈ l := List.mem_mergeSort
theorem comp_spec (l : List Str8) (hs : l.Pairwise fun a b => Op.bytesLess b a = false) : ∀ m, m ≤ l.length → (Lib.compactUpTo l.toArray m).Pairwise SL ∧ ∀ x, x ∈ Lib.compactUpTo l.toArray m ↔ x ∈ l.take m
  | 0, _ => by simp [Lib.compactUpTo]
  | m + 1, hm => by
    obtain ⟨h1, h2⟩ := comp_spec l hs m (by omega)
    have ey : l.toArray[m]! = l[m]'(by omega) := by rw [getElem!_pos _ m (by simp; omega)]; rfl
    have et : l.take (m + 1) = l.take m ++ [l[m]'(by omega)] := by rw [List.take_add_one, List.getElem?_eq_getElem (by omega)]; rfl
    have hle : ∀ k (hk : k < m), Op.bytesLess (l[m]'(by omega)) (l[k]'(by omega)) = false := fun k hk => List.pairwise_iff_getElem.1 hs k m (by omega) (by omega) hk
    rw [Lib.compactUpTo_succ, ey]
    by_cases hk : Lib.keeps l.toArray m = true
    · rw [if_pos hk]
      refine ⟨List.pairwise_append.2 ⟨h1, List.pairwise_singleton .., fun x hx y hy => ?_⟩, fun x => by rw [et, List.mem_append, List.mem_append, h2]⟩
      rw [List.mem_singleton.1 hy]
      rw [h2, List.mem_take_iff_getElem] at hx
      obtain ⟨k, hk2, rfl⟩ := hx
      have hkm : k < m := by omega
      show Op.bytesLess _ _ = true
      cases hq : Op.bytesLess (l[k]'(by omega)) (l[m]'(by omega)) with
      | true => rfl
      | false =>
        have e := bl_total hq (hle k hkm)
        exfalso
        unfold Lib.keeps at hk
        rw [decide_eq_true_eq] at hk
        rcases hk with hk | hk
        · omega
        · apply hk
          rw [ey, getElem!_pos _ (m - 1) (by simp; omega)]
          show l[m]'(by omega) = l[m - 1]'(by omega)
          have e1 := hle (m - 1) (by omega)
          by_cases ek : k = m - 1
          · subst ek; exact e.symm
          · have e2 := List.pairwise_iff_getElem.1 hs k (m - 1) (by omega) (by omega) (by omega)
            rw [e] at e2
            exact bl_total e1 e2
    · rw [if_neg hk, List.append_nil]
      refine ⟨h1, fun x => ?_⟩
      rw [h2, et, List.mem_append, List.mem_singleton]
      refine ⟨.inl, fun h => h.elim id fun h => ?_⟩
      unfold Lib.keeps at hk
      rw [decide_eq_true_eq, not_or, Classical.not_not, ey, getElem!_pos _ (m - 1) (by simp; omega)] at hk
      rw [h, hk.2]
      exact List.mem_take_iff_getElem.2 ⟨m - 1, by omega, rfl⟩
theorem ev_pair (c : ChD) : (evL c).Pairwise SL := (comp_spec _ (sortB_le _) _ (Nat.le_refl _)).1
theorem ev_mem {c : ChD} {s : Str8} : s ∈ evL c ↔ s ≠ [] ∧ ∃ t ∈ c.trans, t.event = s := by
  unfold evL Lib.compact
  rw [(comp_spec _ (sortB_le _) _ (Nat.le_refl _)).2, List.take_length, sortB_mem]
  unfold namedTo
  rw [List.take_length, List.mem_filter, List.mem_map]
  constructor
  · rintro ⟨⟨t, h1, h2⟩, h3⟩
    exact ⟨by simpa using h3, t, h1, h2⟩
  · rintro ⟨h, t, h1, h2⟩
    exact ⟨⟨t, h1, h2⟩, by simpa using h⟩
theorem evL_len (c : ChD) : (evL c).length ≤ c.trans.length := by
  have h1 : (Lib.compact (sortB (namedTo c c.trans.length))).length ≤ (sortB (namedTo c c.trans.length)).length := by
    unfold Lib.compact Lib.compactUpTo
    rw [List.length_map]
    exact Nat.le_trans (List.length_filter_le ..) (by simp)
  have h2 := named_len c c.trans.length
  unfold evL
  have h3 : (sortB (namedTo c c.trans.length)).length = (namedTo c c.trans.length).length := by simp [sortB]
  omega
/-! Where a text stands, or would stand -/
def posL (l : List Str8) (x : Str8) : Nat := (l.filter fun y => Op.bytesLess y x).length
def Cut (l : List Str8) (x : Str8) (p : Nat) : Prop := p ≤ l.length ∧ ∀ k y, l[k]? = some y → (Op.bytesLess y x = true ↔ k < p)
theorem pos_cut : ∀ {l : List Str8}, l.Pairwise SL → ∀ x, Cut l x (posL l x)
  | [], _, x => ⟨Nat.zero_le _, fun k y h => by simp at h⟩
  | a :: l, h, x => by
    obtain ⟨h1, h2⟩ := List.pairwise_cons.1 h
    obtain ⟨k1, k2⟩ := pos_cut h2 x
    unfold posL at *
    rw [List.filter_cons]
    by_cases ha : Op.bytesLess a x = true
    · rw [if_pos ha, List.length_cons]
      refine ⟨by simp only [List.length_cons]; omega, fun k y hk => ?_⟩
      cases k with
      | zero =>
        obtain rfl : a = y := by simpa using hk
        exact ⟨fun _ => by omega, fun _ => ha⟩
      | succ k =>
        rw [k2 k y (by simpa using hk)]
        omega
    · rw [if_neg ha]
      have hno : ∀ y ∈ l, ¬ Op.bytesLess y x = true := fun y hy hb => ha (bl_trans (h1 y hy) hb)
      have e : (l.filter fun y => Op.bytesLess y x) = [] := List.filter_eq_nil_iff.2 hno
      rw [e]
      refine ⟨Nat.zero_le _, fun k y hk => ⟨fun hb => ?_, fun hk => by simp at hk⟩⟩
      cases k with
      | zero =>
        obtain rfl : a = y := by simpa using hk
        exact absurd hb ha
      | succ k => exact absurd hb (hno y (List.mem_of_getElem? (by simpa using hk)))
theorem pos_at {l : List Str8} (h : l.Pairwise SL) {x : Str8} (hx : x ∈ l) : l[posL l x]? = some x := by
  obtain ⟨h1, h2⟩ := pos_cut h x
  obtain ⟨k, hk⟩ := List.mem_iff_getElem?.1 hx
  have h3 := (h2 k x hk)
  rw [bl_irrefl] at h3
  have h3 : ¬ k < posL l x := fun e => by simpa using h3.2 e
  have hkl := (List.getElem?_eq_some_iff.1 hk).1
  by_cases e : k = posL l x
  · rw [← e]; exact hk
  · have hp : posL l x < l.length := by omega
    have h4 := List.pairwise_iff_getElem.1 h (posL l x) k hp hkl (by omega)
    rw [(List.getElem?_eq_some_iff.1 hk).2] at h4
    have := (h2 _ _ (List.getElem?_eq_getElem hp)).1 h4
    omega
def evI (c : ChD) (s : Str8) : Int := if (evL c)[posL (evL c) s]? = some s then (posL (evL c) s : Nat) else -1
theorem evI_in {c : ChD} {s : Str8} (h : s ∈ evL c) : ∃ k : Nat, evI c s = k ∧ (evL c)[k]? = some s := ⟨posL (evL c) s, by unfold evI; rw [if_pos (pos_at (ev_pair c) h)], pos_at (ev_pair c) h⟩
theorem evI_out {c : ChD} {s : Str8} (h : s ∉ evL c) : evI c s = -1 := by
  unfold evI
  rw [if_neg fun e => h (List.mem_of_getElem? e)]
/-! A state's transitions -/
def keyAt (c : ChD) (k : Nat) : Int × Int := match c.trans[k]? with
  | some t => (t.src, evI c t.event)
  | none => (-1, -1)
def rowTo (c : ChD) (j : Nat) (p : Int × Int) : List Nat := (List.range j).filter fun k => keyAt c k = p
def keysTo (c : ChD) : Nat → List (Int × Int)
  | 0 => []
  | j + 1 => if keyAt c j ∈ keysTo c j then keysTo c j else keysTo c j ++ [keyAt c j]
def atL (c : ChD) (i e : Int) : List Nat := rowTo c c.trans.length (i, e)
theorem row_succ (c : ChD) (j : Nat) (p : Int × Int) : rowTo c (j + 1) p = if keyAt c j = p then rowTo c j p ++ [j] else rowTo c j p := by
  unfold rowTo
  rw [List.range_succ, List.filter_append]
  by_cases h : keyAt c j = p <;> simp [h]
theorem keys_mem {c : ChD} {p : Int × Int} : ∀ {j : Nat}, p ∈ keysTo c j ↔ ∃ k, k < j ∧ keyAt c k = p
  | 0 => by simp [keysTo]
  | j + 1 => by
    unfold keysTo
    split
    · rename_i h
      rw [keys_mem]
      constructor
      · rintro ⟨k, h1, h2⟩; exact ⟨k, by omega, h2⟩
      · rintro ⟨k, h1, h2⟩
        by_cases e : k = j
        · subst e; rw [← h2]; exact keys_mem.1 h
        · exact ⟨k, by omega, h2⟩
    · rw [List.mem_append, keys_mem, List.mem_singleton]
      constructor
      · rintro (⟨k, h1, h2⟩ | h)
        · exact ⟨k, by omega, h2⟩
        · exact ⟨j, by omega, h.symm⟩
      · rintro ⟨k, h1, h2⟩
        by_cases e : k = j
        · subst e; exact .inr h2.symm
        · exact .inl ⟨k, by omega, h2⟩
theorem keys_nodup (c : ChD) : ∀ j, (keysTo c j).Nodup
  | 0 => .nil
  | j + 1 => by
    unfold keysTo
    split
    · exact keys_nodup c j
    · rename_i h
      exact List.nodup_append.2 ⟨keys_nodup c j, by simp, fun a ha b hb e => h (by rw [List.mem_singleton.1 hb] at e; exact e ▸ ha)⟩
theorem row_none {c : ChD} {j : Nat} {p : Int × Int} (h : p ∉ keysTo c j) : rowTo c j p = [] := by
  unfold rowTo
  rw [List.filter_eq_nil_iff]
  intro k hk
  simp only [decide_eq_true_eq]
  exact fun e => h (keys_mem.2 ⟨k, List.mem_range.1 hk, e⟩)
theorem row_len (c : ChD) (j : Nat) (p : Int × Int) : (rowTo c j p).length ≤ j := by
  unfold rowTo
  exact Nat.le_trans (List.length_filter_le ..) (by simp)
def idxP (p : Int × Int) : List (Int × Int) → Nat → Option Nat
  | [], _ => none
  | q :: l, i => if p = q then some i else idxP p l (i + 1)
theorem idxP_some {p : Int × Int} : ∀ {l : List (Int × Int)} {i n : Nat}, idxP p l i = some n → i ≤ n ∧ l[n - i]? = some p
  | [], i, n, h => by simp [idxP] at h
  | q :: l, i, n, h => by
    unfold idxP at h
    split at h
    · rename_i e
      obtain rfl : i = n := by simpa using h
      simp [e]
    · obtain ⟨h1, h2⟩ := idxP_some h
      refine ⟨by omega, ?_⟩
      rw [show n - i = (n - (i + 1)) + 1 by omega, List.getElem?_cons_succ]
      exact h2
theorem idxP_none {p : Int × Int} : ∀ {l : List (Int × Int)} {i : Nat}, idxP p l i = none → p ∉ l
  | [], i, h => by simp
  | q :: l, i, h => by
    unfold idxP at h
    split at h
    · cases h
    · rename_i e
      rw [List.mem_cons]
      exact fun hh => hh.elim e (idxP_none h)
end Go.Proofs.YtlmekdfleciejaaGreatDoor
set_option linter.unusedSimpArgs false
namespace Go.Proofs.YtlmekdfleciejaaGreatDoor
open Go.RowKit
set_option maxRecDepth 100000
set_option maxHeartbeats 4000000
theorem nan1_con (env : Env) (s : List UInt8) : Con Tryz.prog env 133 [Sg s] (B false) := by
  refine con_of_body Tryz.func133 rfl Tryz.call133 (by rw [Tryz.ntmps133]; simp) ?_
  rw [Tryz.ntmps133, Tryz.results133]
  repeat refine st0 ?_
  exact aR0
theorem nan2_con (env : Env) (s : List UInt8) : Con Tryz.prog env 176 [Sg s] (B false) := by
  refine con_of_body Tryz.func176 rfl Tryz.call176 (by rw [Tryz.ntmps176]; simp) ?_
  rw [Tryz.ntmps176, Tryz.results176]
  repeat refine st0 ?_
  exact aR0
theorem lessS_con (env : Env) (s t : List UInt8) : Con Tryz.prog env 132 [Sg s, Sg t] (B (Op.bytesLess s t)) := by
  have f0 := nan2_con env s
  refine con_of_body Tryz.func132 rfl Tryz.call132 (by rw [Tryz.ntmps132]; simp) ?_
  rw [Tryz.ntmps132, Tryz.results132]
  repeat (first | refine st0 ?_ | refine cC0 f0 ?_)
  exact aR0
theorem bsearch_con (env : Env) (l : List (List UInt8)) (x : List UInt8) (p : Nat) (hp : Cut l x p) (hl : l.length ≤ 1000000) : Con Tryz.prog env 83 [.seq 1 (l.map strAV), Sg x] (.tuple [I p, B (l[p]? == some x)]) := by
  have f0 := nan1_con env x
  refine con_of_body Tryz.func83 rfl Tryz.call83 (by rw [Tryz.ntmps83]; simp) ?_
  rw [Tryz.ntmps83, Tryz.results83]
  repeat refine st0 ?_
  refine awp_loopH (D := Nat × Nat) (fun d _ => [(0, .seq 1 (l.map strAV)), (1, Sg x), (6, I l.length), (7, I d.1), (8, I d.2)]) (fun _ _ => []) (fun d _ _ => d.1 ≤ p ∧ p ≤ d.2 ∧ d.2 ≤ l.length) (fun d => d.2 - d.1) (0, l.length) ?_ ?_ ?_ ?_
  · exact ⟨Nat.zero_le _, hp.1, Nat.le_refl _⟩
  · (simp only [go_sem])
  · (simp only [go_sem])
  rintro ⟨i, j⟩ ws esc ⟨h1, h2, h3⟩
  simp only at h1 h2 h3
  by_cases hlt : i < j
  · have g1 := nlt hlt
    have hm : (i + j) / 2 < l.length := by omega
    obtain ⟨y, hy⟩ : ∃ y, l[(i + j) / 2]? = some y := ⟨l[(i + j) / 2], List.getElem?_eq_getElem hm⟩
    have hyp := hp.2 _ _ hy
    have f1 := lessS_con env y x
    have g2 : IntKind.i64.wrap ((i : Int) + (j : Int)) = ((i + j : Nat) : Int) := by rw [wrap_in (by omega) (by omega)]; omega
    have g3 : IntKind.u64.wrap ((i + j : Nat) : Int) = ((i + j : Nat) : Int) := IntWalk.u64_in _ (by omega)
    have g4 : IntKind.i64.wrap (((i + j : Nat) : Int).fdiv (2 ^ min 1 64)) = (((i + j) / 2 : Nat) : Int) := by
      rw [show ((i + j : Nat) : Int).fdiv (2 ^ min 1 64) = (((i + j) / 2 : Nat) : Int) from (Int.ofNat_fdiv (i + j) 2).symm, wrap_in (by omega) (by omega)]
    have g5 : (((i + j) / 2 : Nat) : Int) < (l.length : Int) := by omega
    have g6 := wrap_succ (k := (i + j) / 2) (n := l.length) hm (by omega)
    generalize hmm : (i + j) / 2 = mm at *
    cases hb : Op.bytesLess y x with
    | true =>
      rw [hb] at f1 hyp
      have := hyp.1 rfl
      have F := And.intro g1 <| And.intro g2 <| And.intro g3 <| And.intro g4 <| And.intro g5 <| And.intro g6 <| And.intro hy <| strAV.eq_1
      repeat (first | refine st ?_ | refine cC f1 ?_)
      refine ⟨(mm + 1, j), ⟨?_, ?_, ?_⟩, ?_, ?_, ?_⟩
      · simp only; omega
      · exact h2
      · exact h3
      · (simp only [go_sem, F])
      · (simp only [go_sem, F])
      · simp only; omega
    | false =>
      rw [hb] at f1 hyp
      have : ¬ mm < p := fun h => by cases hyp.2 h
      have F := And.intro g1 <| And.intro g2 <| And.intro g3 <| And.intro g4 <| And.intro g5 <| And.intro g6 <| And.intro hy <| strAV.eq_1
      repeat (first | refine st ?_ | refine cC f1 ?_)
      refine ⟨(i, mm), ⟨?_, ?_, ?_⟩, ?_, ?_, ?_⟩
      · exact h1
      · simp only; omega
      · simp only; omega
      · (simp only [go_sem, F])
      · (simp only [go_sem, F])
      · simp only; omega
  · obtain rfl : i = j := by omega
    obtain rfl : i = p := by omega
    have g1 : ¬ (i : Int) < (i : Int) := by omega
    by_cases hi : i < l.length
    · have g2 := nlt hi
      obtain ⟨y, hy⟩ : ∃ y, l[i]? = some y := ⟨l[i], List.getElem?_eq_getElem hi⟩
      have f1 := nan1_con env y
      cases hb : (y == x) with
      | true =>
        have hr : (l[i]? == some x) = true := by rw [hy]; simpa using hb
        rw [hr]
        have F := And.intro g1 <| And.intro g2 <| And.intro hy <| And.intro hb <| strAV.eq_1
        repeat (first | refine st ?_ | refine cC f0 ?_ | refine cC f1 ?_)
        exact aR
      | false =>
        have hr : (l[i]? == some x) = false := by rw [hy]; simpa using hb
        rw [hr]
        have F := And.intro g1 <| And.intro g2 <| And.intro hy <| And.intro hb <| strAV.eq_1
        repeat (first | refine st ?_ | refine cC f0 ?_ | refine cC f1 ?_)
        exact aR
    · have g2 : ¬ (i : Int) < (l.length : Int) := by omega
      have hr : (l[i]? == some x) = false := by rw [List.getElem?_eq_none (by omega)]; rfl
      rw [hr]
      have F := And.intro g1 <| And.intro g2 <| strAV.eq_1
      repeat (first | refine st ?_ | refine cC f0 ?_)
      exact aR
end Go.Proofs.YtlmekdfleciejaaGreatDoor
namespace Go.Proofs.YtlmekdfleciejaaGreatDoor
open Go.RowKit
/-! What is active at first -/
/-! What begins is few -/
theorem bg_up {c : ChD} (h : Full c) : ∀ (n i m : Nat), i < c.states.length → c.states.length ≤ i + n → m ∈ bgL c i → m < c.states.length ∧ (m = i ∨ (i : Int) ∈ upL c m)
  | 0, i, m, hi, hn, _ => by omega
  | n + 1, i, m, hi, hn, hm => by
    obtain ⟨s, hs⟩ : ∃ s, c.states[i]? = some s := ⟨c.states[i], List.getElem?_eq_getElem hi⟩
    rw [bg_ref h hs, List.mem_cons, List.mem_flatMap] at hm
    rcases hm with rfl | ⟨k, hk, hm⟩
    · exact ⟨hi, .inl rfl⟩
    · have hg := kid_gt h.toRight (kid_real hk).1
      have hkp := (kid_iff.1 (kid_real hk).1).2
      have hup : (i : Int) ∈ upL c k := (up_mem h.toRight (inZ_nat.2 hg.2)).2 (.inl hkp.symm)
      split at hm
      · obtain ⟨h1, h2⟩ := bg_up h n k m (by omega) (by omega) hm
        refine ⟨h1, .inr ?_⟩
        rcases h2 with rfl | h2
        · exact hup
        · exact up_trans h.toRight (m + 1) m k i (by omega) h2 hup
      · simp at hm
theorem bg_nodup {c : ChD} (h : Full c) : ∀ (n i : Nat), i < c.states.length → c.states.length ≤ i + n → (bgL c i).Nodup
  | 0, i, hi, hn => by omega
  | n + 1, i, hi, hn => by
    obtain ⟨s, hs⟩ : ∃ s, c.states[i]? = some s := ⟨c.states[i], List.getElem?_eq_getElem hi⟩
    rw [bg_ref h hs, List.nodup_cons]
    have mem : ∀ k ∈ kidsL c i true, ∀ m, m ∈ (if s.kind = 2 ∨ s.initial = (k : Nat) then bgL c k else []) → m < c.states.length ∧ (m = k ∨ (k : Int) ∈ upL c m) := fun k hk m hm => by
      have hg := kid_gt h.toRight (kid_real hk).1
      split at hm
      · exact bg_up h n k m (by omega) (by omega) hm
      · simp at hm
    refine ⟨fun hm => ?_, ?_⟩
    · obtain ⟨k, hk, hm⟩ := List.mem_flatMap.1 hm
      have hg := kid_gt h.toRight (kid_real hk).1
      obtain ⟨q1, q2⟩ := mem k hk i hm
      rcases q2 with e | e
      · omega
      · have := up_lt h.toRight 40 _ _ e
        omega
    · have hnd := kidsL_nodup c i true
      rw [List.nodup_iff_pairwise_ne] at hnd
      rw [List.nodup_iff_pairwise_ne, List.pairwise_flatMap]
      refine ⟨fun k hk => ?_, ?_⟩
      · have hg := kid_gt h.toRight (kid_real hk).1
        rw [← List.nodup_iff_pairwise_ne]
        split
        · exact bg_nodup h n k (by omega) (by omega)
        · exact .nil
      · refine List.Pairwise.imp_of_mem (R := fun a b => a ≠ b) ?_ hnd
        intro k1 k2 hk1 hk2 hne m1 hm1 m2 hm2 e
        subst e
        obtain ⟨q1, q2⟩ := mem k1 hk1 m1 hm1
        obtain ⟨_, q3⟩ := mem k2 hk2 m1 hm2
        exact hne (kid_one h.toRight (kid_real hk1).1 (kid_real hk2).1 (m1 + 1) m1 (by omega) q1 q2 q3)
theorem bg_len {c : ChD} (h : Full c) {i : Nat} (hi : i < c.states.length) : (bgL c i).length ≤ 32 := by
  have hf := h.few
  have := (bg_nodup h 40 i hi (by omega)).length_le_of_subset (l₂ := List.range c.states.length) fun m hm => List.mem_range.2 (bg_up h 40 i m hi (by omega) hm).1
  simp at this
  omega
end Go.Proofs.YtlmekdfleciejaaGreatDoor
