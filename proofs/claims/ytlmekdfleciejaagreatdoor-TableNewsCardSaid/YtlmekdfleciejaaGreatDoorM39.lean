/- The document's words on events' names; what a nil table tells. -/
import Derived.Test.YtlmekdfleciejaaGreatDoorM31
import Derived.Test.YtlmekdfleciejaaGreatDoorM8
import Derived.Test.YtlmekdfleciejaaGreatDoorM38
import Derived.Test.YtlmekdfleciejaaGreatDoorM34
set_option linter.unusedSimpArgs false
namespace Go.Proofs.YtlmekdfleciejaaGreatDoor
open Go.RowKit
set_option maxRecDepth 100000
set_option maxHeartbeats 4000000
end Go.Proofs.YtlmekdfleciejaaGreatDoor
set_option linter.unusedSimpArgs false
namespace Go.Proofs.YtlmekdfleciejaaGreatDoor
open Go.RowKit
set_option maxRecDepth 100000
set_option maxHeartbeats 4000000
theorem cloneN_con (env : Env) : Con Tryz.prog env 73 [nilS] (.own 3 1 []) := (cloneI_con env [] (by simp)).args (Strs.cons (Str.nil 1) Strs.nil)
theorem tabTree_con (env : Env) (c : ChD) : Con Tryz.prog env 31 [tabAV c] (treeAV c) := by
  refine con_of_body Tryz.func31 rfl Tryz.call31 (by rw [Tryz.ntmps31]; simp) ?_
  rw [Tryz.ntmps31, Tryz.results31]
  have F := And.intro tabAV.eq_1 <| And.intro tabCells.eq_1 <| treeAV.eq_1
  repeat refine st ?_
  exact aR
theorem tabChart_con (env : Env) (c : ChD) (hs : Small c) : Con Tryz.prog env 17 [tabAV c] (.agg (chAV c)) := by
  have f0 := pCopy_con env c hs
  unfold chAV at f0
  refine con_of_body Tryz.func17 rfl Tryz.call17 (by rw [Tryz.ntmps17]; simp) ?_
  rw [Tryz.ntmps17, Tryz.results17]
  have F := And.intro tabAV.eq_1 <| tabCells.eq_1
  repeat (first | refine st ?_ | refine cC f0 ?_)
  (refine awp_ret ?_; show (resRd _ _ _).run _ = some _; simp only [go_sem, F])
  rfl
theorem tabEvents_con (env : Env) (c : ChD) (hc : c.trans.length ≤ 4096) : Con Tryz.prog env 30 [tabAV c] (.own 9 1 ((evL c).map strAV)) := by
  have hl := evL_len c
  have f0 := cloneS_con env ((evL c).map strAV) (by rw [List.length_map]; omega)
  refine con_of_body Tryz.func30 rfl Tryz.call30 (by rw [Tryz.ntmps30]; simp) ?_
  rw [Tryz.ntmps30, Tryz.results30]
  have F := And.intro tabAV.eq_1 <| tabCells.eq_1
  repeat (first | refine st ?_ | refine cC f0 ?_)
  exact aR
theorem tabEvent_con (env : Env) (c : ChD) (hc : c.trans.length ≤ 4096) (s : List UInt8) : Con Tryz.prog env 29 [tabAV c, Sg s] (I (evI c s)) := event_con env c (by omega) _ _ s
def tatL (c : ChD) (i e : Int) : List Nat := if e < 0 then [] else atL c i e
theorem atL_len (c : ChD) (i e : Int) : (atL c i e).length ≤ c.trans.length := row_len ..
theorem atL_some {c : ChD} {i e : Int} {q : Nat} (hq : idxP (i, e) (keysTo c c.trans.length) 0 = some q) : (transE c)[q]? = some [.agg [I i, I e], .seq 1 ((atL c i e).map natAV)] := by
  have := (idxP_some hq).2
  unfold transE
  rw [List.getElem?_map, Nat.sub_zero] at *
  rw [this]
  rfl
theorem tabAt_con (env : Env) (c : ChD) (hc : c.trans.length ≤ 4096) (i e : Int) : Con Tryz.prog env 32 [tabAV c, I i, I e] (.own 3 1 ((tatL c i e).map natAV)) := by
  have hl := atL_len c i e
  have hm := mfind_E c i e
  unfold tatL
  by_cases h : e < 0
  · rw [if_pos h]
    refine con_of_body_w Tryz.func32 rfl Tryz.call32 (by rw [Tryz.ntmps32]; simp) ?_
    rw [Tryz.ntmps32, Tryz.results32]
    have F := And.intro tabAV.eq_1 <| And.intro tabCells.eq_1 <| h
    repeat refine st ?_
    (refine awp_ret ?_; refine ⟨_, (by show (resRd _ _ _).run _ = some _; simp only [go_sem, F]; rfl), ?_⟩)
    exact RStr.own_nil _ _ (by decide)
  · rw [if_neg h]
    cases hq : idxP (i, e) (keysTo c c.trans.length) 0 with
    | none =>
      rw [hq] at hm
      have f0 := cloneN_con env
      rw [show atL c i e = [] from row_none (idxP_none hq)]
      refine con_of_body Tryz.func32 rfl Tryz.call32 (by rw [Tryz.ntmps32]; simp) ?_
      rw [Tryz.ntmps32, Tryz.results32]
      have F := And.intro tabAV.eq_1 <| And.intro tabCells.eq_1 <| And.intro h <| hm
      repeat (first | refine st ?_ | refine cC f0 ?_)
      exact aR
    | some q =>
      rw [hq] at hm
      have hk := atL_some hq
      have f0 := cloneI_con env ((atL c i e).map natAV) (by rw [List.length_map]; omega)
      refine con_of_body Tryz.func32 rfl Tryz.call32 (by rw [Tryz.ntmps32]; simp) ?_
      rw [Tryz.ntmps32, Tryz.results32]
      have F := And.intro tabAV.eq_1 <| And.intro tabCells.eq_1 <| And.intro h <| And.intro hm <| hk
      repeat (first | refine st ?_ | refine cC f0 ?_)
      exact aR
theorem tabAuto_con (env : Env) (c : ChD) (hc : c.trans.length ≤ 4096) (i : Int) : Con Tryz.prog env 19 [tabAV c, I i] (.own 3 1 ((atL c i (-1)).map natAV)) := by
  have hl := atL_len c i (-1)
  have hm := mfind_E c i (-1)
  cases hq : idxP (i, -1) (keysTo c c.trans.length) 0 with
  | none =>
    rw [hq] at hm
    have f0 := cloneN_con env
    rw [show atL c i (-1) = [] from row_none (idxP_none hq)]
    refine con_of_body Tryz.func19 rfl Tryz.call19 (by rw [Tryz.ntmps19]; simp) ?_
    rw [Tryz.ntmps19, Tryz.results19]
    have F := And.intro tabAV.eq_1 <| And.intro tabCells.eq_1 <| hm
    repeat (first | refine st ?_ | refine cC f0 ?_)
    exact aR
  | some q =>
    rw [hq] at hm
    have hk := atL_some hq
    have f0 := cloneI_con env ((atL c i (-1)).map natAV) (by rw [List.length_map]; omega)
    refine con_of_body Tryz.func19 rfl Tryz.call19 (by rw [Tryz.ntmps19]; simp) ?_
    rw [Tryz.ntmps19, Tryz.results19]
    have F := And.intro tabAV.eq_1 <| And.intro tabCells.eq_1 <| And.intro hm <| hk
    repeat (first | refine st ?_ | refine cC f0 ?_)
    exact aR
end Go.Proofs.YtlmekdfleciejaaGreatDoor
set_option linter.unusedSimpArgs false
namespace Go.Proofs.YtlmekdfleciejaaGreatDoor
open Go.RowKit
set_option maxRecDepth 100000
set_option maxHeartbeats 8000000
def putStep (s : Str8) (a : List Str8 × Bool) (x : Str8) : List Str8 × Bool :=
  ((if (!a.2 && !Op.bytesLess x s) = true then (if (!(Op.bytesLess x s || x == s)) = true then a.1 ++ [s] else a.1) else a.1) ++ [x], a.2 || !Op.bytesLess x s)
def putTo (l : List Str8) (s : Str8) (j : Nat) : List Str8 × Bool := (l.take j).foldl (putStep s) ([], false)
def putB (l : List Str8) (s : Str8) : List Str8 := if (putTo l s l.length).2 = true then (putTo l s l.length).1 else (putTo l s l.length).1 ++ [s]
theorem putTo_next {l : List Str8} {s x : Str8} {j : Nat} (h : l[j]? = some x) : putTo l s (j + 1) = putStep s (putTo l s j) x := by
  unfold putTo
  rw [List.take_add_one, h, List.foldl_append]
  rfl
theorem putTo_len (l : List Str8) (s : Str8) : ∀ j, (putTo l s j).1.length ≤ 2 * j
  | 0 => by simp [putTo]
  | j + 1 => by
    have ih := putTo_len l s j
    cases h : l[j]? with
    | none =>
      have hl := List.getElem?_eq_none_iff.1 h
      have : putTo l s (j + 1) = putTo l s j := by unfold putTo; rw [List.take_of_length_le (by omega), List.take_of_length_le (by omega)]
      rw [this]; omega
    | some x =>
      rw [putTo_next h]
      unfold putStep
      simp only [List.length_append, List.length_singleton]
      split
      · split
        · rw [List.length_append, List.length_singleton]; omega
        · omega
      · omega
theorem putTo_of {l : List Str8} {s : Str8} (hl : l.Pairwise SL) : ∀ j, j ≤ l.length → ((putTo l s j).2 = false → (putTo l s j).1 = l.take j ∧ ∀ x ∈ l.take j, SL x s) ∧
    ((putTo l s j).2 = true → (putTo l s j).1.Pairwise SL ∧ (∀ x, x ∈ (putTo l s j).1 ↔ x ∈ l.take j ∨ x = s) ∧ ∃ y ∈ l.take j, Op.bytesLess y s = false)
  | 0, _ => ⟨fun _ => by simp [putTo], fun h => by simp [putTo] at h⟩
  | j + 1, hj => by
    obtain ⟨x, hx⟩ : ∃ x, l[j]? = some x := ⟨l[j], List.getElem?_eq_getElem (by omega)⟩
    obtain ⟨i1, i2⟩ := putTo_of (s := s) hl j (by omega)
    have et : l.take (j + 1) = l.take j ++ [x] := by rw [List.take_add_one, hx]; rfl
    have hlt : ∀ y ∈ l.take j, SL y x := fun y hy => by
      obtain ⟨k, hk, rfl⟩ := List.mem_take_iff_getElem.1 hy
      obtain ⟨hj2, rfl⟩ := List.getElem?_eq_some_iff.1 hx
      exact List.pairwise_iff_getElem.1 hl k j (by omega) hj2 (by omega)
    rw [putTo_next hx, et]
    generalize putTo l s j = a at *
    obtain ⟨o, d⟩ := a
    unfold putStep
    cases d with
    | true =>
      obtain ⟨q1, q2, y, hy, hys⟩ := i2 rfl
      have q1 : o.Pairwise SL := q1
      have q2 : ∀ x, x ∈ o ↔ x ∈ l.take j ∨ x = s := q2
      simp only [Bool.not_true, Bool.false_and, Bool.false_eq_true, if_false, Bool.true_or]
      refine ⟨fun h => (by cases h), fun _ => ⟨?_, fun z => ?_, y, List.mem_append_left _ hy, hys⟩⟩
      · refine List.pairwise_append.2 ⟨q1, List.pairwise_singleton .., fun z hz w hw => ?_⟩
        rw [List.mem_singleton.1 hw]
        rcases (q2 z).1 hz with hz | rfl
        · exact hlt z hz
        · show Op.bytesLess z x = true
          cases k : Op.bytesLess z y with
          | true => exact bl_trans k (hlt y hy)
          | false => rw [bl_total k hys]; exact hlt y hy
      · rw [List.mem_append, List.mem_append, q2]
        constructor
        · rintro ((a | a) | a)
          · exact .inl (.inl a)
          · exact .inr a
          · exact .inl (.inr a)
        · rintro ((a | a) | a)
          · exact .inl (.inl a)
          · exact .inr a
          · exact .inl (.inr a)
    | false =>
      obtain ⟨q1, q2⟩ := i1 rfl
      have q1 : o = l.take j := q1
      subst q1
      simp only [Bool.not_false, Bool.true_and, Bool.false_or]
      cases k : Op.bytesLess x s with
      | true =>
        simp only [Bool.not_true, Bool.false_eq_true, if_false]
        refine ⟨fun _ => ⟨trivial, fun z hz => ?_⟩, fun h => by cases h⟩
        rcases List.mem_append.1 hz with hz | hz
        · exact q2 z hz
        · rw [List.mem_singleton.1 hz]; exact k
      | false =>
        simp only [Bool.not_false, if_true, Bool.false_or]
        refine ⟨fun h => (by cases h), fun _ => ?_⟩
        have hp : (l.take j).Pairwise SL := hl.sublist (List.take_sublist _ _)
        by_cases e : x = s
        · subst e
          simp only [beq_self_eq_true, Bool.not_true, Bool.false_eq_true, if_false]
          refine ⟨List.pairwise_append.2 ⟨hp, List.pairwise_singleton .., fun z hz w hw => ?_⟩, fun z => ?_, x, by simp, k⟩
          · rw [List.mem_singleton.1 hw]; exact hlt z hz
          · simp only [List.mem_append, List.mem_singleton]
            exact ⟨.inl, fun h => h.elim id .inr⟩
        · have hb : (x == s) = false := by simpa using e
          simp only [hb, Bool.not_false, if_true]
          have hsx : SL s x := by
            show Op.bytesLess s x = true
            cases k2 : Op.bytesLess s x with
            | true => rfl
            | false => exact absurd (bl_total k k2) e
          refine ⟨List.pairwise_append.2 ⟨List.pairwise_append.2 ⟨hp, List.pairwise_singleton .., fun z hz w hw => ?_⟩, List.pairwise_singleton .., fun z hz w hw => ?_⟩, fun z => ?_, x, by simp, k⟩
          · rw [List.mem_singleton.1 hw]; exact q2 z hz
          · rw [List.mem_singleton.1 hw]
            rcases List.mem_append.1 hz with hz | hz
            · exact hlt z hz
            · rw [List.mem_singleton.1 hz]; exact hsx
          · simp only [List.mem_append, List.mem_singleton]
            constructor
            · rintro ((a | a) | a)
              · exact .inl (.inl a)
              · exact .inr a
              · exact .inl (.inr a)
            · rintro ((a | a) | a)
              · exact .inl (.inl a)
              · exact .inr a
              · exact .inl (.inr a)
theorem putB_of {l : List Str8} {s : Str8} (hl : l.Pairwise SL) : (putB l s).Pairwise SL ∧ ∀ x, x ∈ putB l s ↔ x ∈ l ∨ x = s := by
  obtain ⟨h1, h2⟩ := putTo_of (s := s) hl l.length (Nat.le_refl _)
  rw [List.take_length] at h1 h2
  unfold putB
  cases h : (putTo l s l.length).2 with
  | true =>
    obtain ⟨q1, q2, _⟩ := h2 h
    simp only [if_true]
    exact ⟨q1, q2⟩
  | false =>
    obtain ⟨q1, q2⟩ := h1 h
    simp only [Bool.false_eq_true, if_false]
    rw [q1]
    refine ⟨List.pairwise_append.2 ⟨hl, List.pairwise_singleton .., fun z hz w hw => ?_⟩, fun x => by rw [List.mem_append, List.mem_singleton]⟩
    rw [List.mem_singleton.1 hw]; exact q2 z hz
def evRTo (c : ChD) (j : Nat) : List Str8 := (namedTo c j).foldl putB []
theorem evR_of (c : ChD) (j : Nat) : (evRTo c j).Pairwise SL ∧ ∀ x, x ∈ evRTo c j ↔ x ∈ namedTo c j := by
  have key : ∀ (l o : List Str8), o.Pairwise SL → (l.foldl putB o).Pairwise SL ∧ ∀ x, x ∈ l.foldl putB o ↔ x ∈ o ∨ x ∈ l := fun l => by
    induction l with
    | nil => intro o ho; exact ⟨ho, fun x => by simp⟩
    | cons s l ih =>
      intro o ho
      obtain ⟨q1, q2⟩ := putB_of (s := s) ho
      obtain ⟨p1, p2⟩ := ih _ q1
      refine ⟨p1, fun x => ?_⟩
      rw [List.foldl_cons, p2, q2, List.mem_cons]
      constructor
      · rintro ((a | a) | a)
        · exact .inl a
        · exact .inr (.inl a)
        · exact .inr (.inr a)
      · rintro (a | a | a)
        · exact .inl (.inl a)
        · exact .inl (.inr a)
        · exact .inr a
  obtain ⟨k1, k2⟩ := key (namedTo c j) [] List.Pairwise.nil
  exact ⟨k1, fun x => (k2 x).trans (by simp)⟩
theorem sl_ext {a b : List Str8} (ha : a.Pairwise SL) (hb : b.Pairwise SL) (h : ∀ x, x ∈ a ↔ x ∈ b) : a = b := by
  have irr : ∀ x : Str8, ¬ SL x x := fun x hx => by
    have := bl_asymm hx
    rw [hx] at this
    cases this
  have na : a.Nodup := ha.imp fun {x y} h e => by rw [e] at h; exact irr _ h
  have nb : b.Nodup := hb.imp fun {x y} h e => by rw [e] at h; exact irr _ h
  exact List.Perm.eq_of_pairwise (fun x y _ _ h1 h2 => by
    have h1 : Op.bytesLess x y = true := h1
    have h2 : Op.bytesLess y x = true := h2
    rw [bl_asymm h1] at h2
    cases h2) ha hb ((List.perm_ext_iff_of_nodup na nb).2 h)
theorem evR_all (c : ChD) : evRTo c c.trans.length = evL c := by
  obtain ⟨h1, h2⟩ := evR_of c c.trans.length
  refine sl_ext h1 (ev_pair c) fun x => ?_
  rw [h2, ev_mem]
  unfold namedTo
  rw [List.take_length, List.mem_filter, List.mem_map]
  constructor
  · rintro ⟨⟨t, h1, h2⟩, h3⟩
    exact ⟨by simpa using h3, t, h1, h2⟩
  · rintro ⟨h, t, h1, h2⟩
    exact ⟨⟨t, h1, h2⟩, by simpa using h⟩
theorem evR_len (c : ChD) (j : Nat) : (evRTo c j).length ≤ j := by
  obtain ⟨h1, h2⟩ := evR_of c j
  have nd : (evRTo c j).Nodup := h1.imp fun {x y} h e => by
    rw [e] at h
    have h : Op.bytesLess y y = true := h
    have := bl_asymm h
    rw [h] at this
    cases this
  exact Nat.le_trans (nd.length_le_of_subset fun x hx => (h2 x).1 hx) (named_len c j)
theorem rPut_con (env : Env) (l : List Str8) (s : Str8) (hl : l.length ≤ 4096) : Con Tryz.prog env 154 [.seq 1 (l.map strAV), Sg s] (.own 9 1 ((putB l s).map strAV)) := by
  refine con_of_body Tryz.func154 rfl Tryz.call154 (by rw [Tryz.ntmps154]; simp) ?_
  rw [Tryz.ntmps154, Tryz.results154]
  repeat refine st0 ?_
  refine awp_loopH (D := Nat) (fun j vs => [(0, .seq 1 (l.map strAV)), (1, Sg s), (5, .row 8 (vs 8)), (6, B (putTo l s j).2), (7, I j)]) (fun j _ => [(8, ⟨1, (putTo l s j).1.map strAV, 9, true⟩)]) (fun j _ esc => j ≤ l.length ∧ esc 8 = false) (fun j => l.length - j) 0 ?_ ?_ ?_ ?_
  · exact ⟨Nat.zero_le _, rfl⟩
  · (simp only [go_sem])
    try rfl
  · (simp only [go_sem])
    try rfl
  rintro j ws esc ⟨hj, e0⟩
  have hpl := putTo_len l s j
  by_cases hlt : j < l.length
  · obtain ⟨x, hx⟩ : ∃ x, l[j]? = some x := ⟨l[j], List.getElem?_eq_getElem hlt⟩
    have q1 := nlt hlt
    have q2 := wrap_succ hlt (by omega)
    have hn := putTo_next (s := s) hx
    unfold putStep at hn
    generalize putTo l s j = a at *
    obtain ⟨o, d⟩ := a
    simp only at hpl hn
    have hf1 : Fits (o.length + 1) 16 := ⟨by omega, by omega⟩
    have hf2 : Fits (o.length + 1 + 1) 16 := ⟨by omega, by omega⟩
    cases hd : d with
    | true =>
      rw [hd] at hn
      simp only [Bool.not_true, Bool.false_and, Bool.false_eq_true, if_false, Bool.true_or] at hn
      have F := And.intro strAV.eq_1 <| And.intro hx <| And.intro q1 <| And.intro q2 <| And.intro hf1 <| e0
      repeat refine st ?_
      refine ⟨j + 1, ⟨hlt, by simp only [go_sem, e0]⟩, ?_, ?_, by omega⟩
      · have F := hn
        (simp only [go_sem, F])
      · have F := And.intro hn <| strAV.eq_1
        (simp only [go_sem, List.map_append, F])
    | false =>
      rw [hd] at hn
      simp only [Bool.not_false, Bool.true_and, Bool.false_or] at hn
      cases k : Op.bytesLess x s with
      | true =>
        rw [k] at hn
        simp only [Bool.not_true, Bool.false_eq_true, if_false] at hn
        have F := And.intro strAV.eq_1 <| And.intro hx <| And.intro q1 <| And.intro q2 <| And.intro hf1 <| And.intro e0 <| k
        repeat refine st ?_
        refine ⟨j + 1, ⟨hlt, by simp only [go_sem, e0]⟩, ?_, ?_, by omega⟩
        · have F := hn
          (simp only [go_sem, F])
        · have F := And.intro hn <| strAV.eq_1
          (simp only [go_sem, List.map_append, F])
      | false =>
        rw [k] at hn
        simp only [Bool.not_false, if_true, Bool.false_or] at hn
        cases k2 : x == s with
        | true =>
          rw [k2] at hn
          simp only [Bool.not_true, Bool.false_eq_true, if_false] at hn
          have F := And.intro strAV.eq_1 <| And.intro hx <| And.intro q1 <| And.intro q2 <| And.intro hf1 <| And.intro e0 <| And.intro k <| k2
          repeat refine st ?_
          refine ⟨j + 1, ⟨hlt, by simp only [go_sem, e0]⟩, ?_, ?_, by omega⟩
          · have F := hn
            (simp only [go_sem, F])
          · have F := And.intro hn <| strAV.eq_1
            (simp only [go_sem, List.map_append, F])
        | false =>
          rw [k2] at hn
          simp only [Bool.not_false, if_true] at hn
          have F := And.intro strAV.eq_1 <| And.intro hx <| And.intro q1 <| And.intro q2 <| And.intro hf1 <| And.intro hf2 <| And.intro e0 <| And.intro k <| k2
          repeat refine st ?_
          refine ⟨j + 1, ⟨hlt, by simp only [go_sem, e0]⟩, ?_, ?_, by omega⟩
          · have F := hn
            (simp only [go_sem, F])
          · have F := And.intro hn <| strAV.eq_1
            (simp only [go_sem, List.map_append, F])
  · obtain rfl : j = l.length := by omega
    have q1 : ¬ (l.length : Int) < (l.length : Int) := by omega
    have hf1 : Fits ((putTo l s l.length).1.length + 1) 16 := ⟨by omega, by omega⟩
    have hb : putB l s = if (putTo l s l.length).2 = true then (putTo l s l.length).1 else (putTo l s l.length).1 ++ [s] := rfl
    rw [hb]
    generalize putTo l s l.length = a at *
    obtain ⟨o, d⟩ := a
    cases hd : d with
    | true =>
      simp only [if_true]
      have F := And.intro q1 <| e0
      repeat refine st ?_
      exact aR
    | false =>
      simp only [Bool.false_eq_true, if_false, List.map_append]
      have F := And.intro strAV.eq_1 <| And.intro q1 <| And.intro hf1 <| e0
      repeat refine st ?_
      exact aR
def ownD (c : ChD) : ChD := ⟨[], 0, [], [], c.trans.map fun t => ⟨0, t.event, [], [], 0⟩⟩
theorem own_named (c : ChD) (j : Nat) : namedTo (ownD c) j = namedTo c j := by
  unfold namedTo ownD
  simp only [← List.map_take, List.map_map]
  rfl
theorem rAllOwn_con (env : Env) (c : ChD) (hl : c.trans.length ≤ 1000000) : Con Tryz.prog env 155 [.agg (chAV (ownD c))] (.own 154 4 []) := by
  have hlen : (ownD c).trans.length = c.trans.length := by simp [ownD]
  have hst : (ownD c).states = [] := rfl
  have hta : ∀ (j : Nat) (t : TrD), (ownD c).trans[j]? = some t → t.acts = [] := fun j t ht => by
    unfold ownD at ht
    rw [List.getElem?_map] at ht
    cases hq : c.trans[j]? with
    | none => rw [hq] at ht; cases ht
    | some u => rw [hq] at ht; cases ht; rfl
  generalize ownD c = d at *
  refine con_of_body Tryz.func155 rfl Tryz.call155 (by rw [Tryz.ntmps155]; simp) ?_
  rw [Tryz.ntmps155, Tryz.results155]
  have F := And.intro chAV.eq_1 <| hst
  repeat refine st ?_
  refine awp_loopH (D := Unit) (fun _ vs => [(1, .loc 1 (vs 1) 0 0), (3, .row 6 (vs 6)), (4, I 0)]) (fun _ _ => [(1, ⟨5, [chAV d], 26, false⟩), (6, ⟨4, [], 154, true⟩)]) (fun _ _ esc => esc 6 = false ∧ esc 1 = false) (fun _ => 0) () ?_ ?_ ?_ ?_
  · exact ⟨rfl, rfl⟩
  · (simp only [go_sem, F])
    try rfl
  · have F := And.intro chAV.eq_1 <| hst
    (simp only [go_sem, F])
    try rfl
  rintro ⟨⟩ ws esc ⟨e0, e1⟩
  have q0 : ¬ (0 : Int) < 0 := by omega
  have F := And.intro chAV.eq_1 <| And.intro hst <| And.intro e0 <| And.intro e1 <| q0
  repeat refine st ?_
  refine awp_loopH (D := Nat) (fun j vs => [(1, .loc 1 (vs 1) 0 0), (3, .row 6 (vs 6)), (5, I j)]) (fun _ _ => [(1, ⟨5, [chAV d], 26, false⟩), (6, ⟨4, [], 154, true⟩)]) (fun j _ esc => j ≤ d.trans.length ∧ esc 6 = false ∧ esc 1 = false) (fun j => d.trans.length - j) 0 ?_ ?_ ?_ ?_
  · exact ⟨Nat.zero_le _, e0, e1⟩
  · (simp only [go_sem, F])
    try rfl
  · have F := And.intro chAV.eq_1 <| hst
    (simp only [go_sem, F])
    try rfl
  rintro j ws esc ⟨hj, e0, e1⟩
  by_cases hlt : j < d.trans.length
  · obtain ⟨t, ht⟩ : ∃ t, d.trans[j]? = some t := ⟨d.trans[j], List.getElem?_eq_getElem hlt⟩
    have ha := hta j t ht
    have q1 := nlt hlt
    have q2 := wrap_succ hlt (by omega)
    have hf : Fits 0 56 := fits_small (by omega) (by omega)
    have F := And.intro chAV.eq_1 <| And.intro trAV.eq_1 <| And.intro ht <| And.intro ha <| And.intro q1 <| And.intro q2 <| And.intro hf <| And.intro e0 <| e1
    repeat refine st ?_
    refine ⟨j + 1, ⟨hlt, by simp only [go_sem, e0], by simp only [go_sem, e1]⟩, ?_, ?_, by omega⟩
    · (simp only [go_sem, F])
    · have F := chAV.eq_1
      (simp only [go_sem, F])
  · obtain rfl : j = d.trans.length := by omega
    have q1 : ¬ (d.trans.length : Int) < (d.trans.length : Int) := by omega
    have F := And.intro chAV.eq_1 <| And.intro q1 <| And.intro e0 <| e1
    repeat refine st ?_
    exact aR
end Go.Proofs.YtlmekdfleciejaaGreatDoor
