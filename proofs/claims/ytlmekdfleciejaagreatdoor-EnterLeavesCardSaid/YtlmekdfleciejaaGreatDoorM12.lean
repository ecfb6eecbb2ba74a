/- Copies: slices.Clone, chart.Copy. -/
import Derived.Test.YtlmekdfleciejaaGreatDoorM6
import Derived.Test.YtlmekdfleciejaaGreatDoorM11
import Derived.Test.YtlmekdfleciejaaGreatDoorM5
import Derived.Test.YtlmekdfleciejaaGreatDoorM8
namespace Go.Proofs.YtlmekdfleciejaaGreatDoor
theorem take_same {α : Type} {a b : List α} {i : Nat} {x y : α} (h : a.take i = b.take i) (hx : a[i]? = some x) (hy : b[i]? = some y) (e : x = y) : a.take (i + 1) = b.take (i + 1) := by
  obtain ⟨h1, h2⟩ := List.getElem?_eq_some_iff.1 hx
  obtain ⟨h3, h4⟩ := List.getElem?_eq_some_iff.1 hy
  rw [List.take_succ_eq_append_getElem h1, List.take_succ_eq_append_getElem h3, h, h2, h4, e]
theorem unlike_at {α : Type} [DecidableEq α] {a b : List α} {i : Nat} {x y : α} (hx : a[i]? = some x) (hy : b[i]? = some y) (e : x ≠ y) : (a == b) = false := by
  rw [beq_eq_false_iff_ne]
  intro h
  rw [h, hy] at hx
  exact e (Option.some.inj hx).symm
theorem same_all {α : Type} [DecidableEq α] {a b : List α} {i : Nat} (h : a.take i = b.take i) (ha : a.length ≤ i) (hb : b.length ≤ i) : (a == b) = true := by
  rw [List.take_of_length_le ha, List.take_of_length_le hb] at h
  simpa using h
theorem unlike_len {α : Type} [DecidableEq α] {a b : List α} (h : a.length ≠ b.length) : (a == b) = false := by
  rw [beq_eq_false_iff_ne]
  intro e
  exact h (by rw [e])
theorem some_at {α : Type} {l : List α} {i : Nat} (h : i < l.length) : ∃ x, l[i]? = some x ∧ x ∈ l := ⟨l[i], List.getElem?_eq_getElem h, List.getElem_mem h⟩
theorem ibne {a b : Nat} (h : a ≠ b) : ((a : Int) == (b : Int)) = false := by simp; omega
theorem act_eq (a b : ActD) : (a == b) = ((a.kind == b.kind) && (a.n == b.n) && (a.name == b.name) && (a.code == b.code)) := by
  rw [Bool.eq_iff_iff]
  obtain ⟨k, n, m, c⟩ := a
  obtain ⟨k', n', m', c'⟩ := b
  simp [and_assoc]
theorem op_eq (a b : OpD) : (a == b) = ((a.kind == b.kind) && (a.n == b.n)) := by
  rw [Bool.eq_iff_iff]
  obtain ⟨k, n⟩ := a
  obtain ⟨k', n'⟩ := b
  simp
theorem var_eq (a b : VarD) : (a == b) = ((a.name == b.name) && (a.start == b.start)) := by
  rw [Bool.eq_iff_iff]
  obtain ⟨k, n⟩ := a
  obtain ⟨k', n'⟩ := b
  simp
theorem st_eq (a b : StD) : (a == b) = ((a.name == b.name) && (a.kind == b.kind) && (a.parent == b.parent) && (a.initial == b.initial) && (a.inn == b.inn) && (a.out == b.out)) := by
  rw [Bool.eq_iff_iff]
  obtain ⟨a1, a2, a3, a4, a5, a6⟩ := a
  obtain ⟨b1, b2, b3, b4, b5, b6⟩ := b
  simp [and_assoc]
theorem tr_eq (a b : TrD) : (a == b) = ((a.src == b.src) && (a.event == b.event) && (a.target == b.target) && (a.guard == b.guard) && (a.acts == b.acts)) := by
  rw [Bool.eq_iff_iff]
  obtain ⟨a1, a2, a3, a4, a5⟩ := a
  obtain ⟨b1, b2, b3, b4, b5⟩ := b
  simp
  constructor
  · rintro ⟨h1, h2, h3, h4, h5⟩; exact ⟨⟨⟨⟨h1, h2⟩, h5⟩, h3⟩, h4⟩
  · rintro ⟨⟨⟨⟨h1, h2⟩, h5⟩, h3⟩, h4⟩; exact ⟨h1, h2, h3, h4, h5⟩
theorem ch_eq (a b : ChD) : (a == b) = ((a.name == b.name) && (a.initial == b.initial) && (a.vars == b.vars) && (a.states == b.states) && (a.trans == b.trans)) := by
  rw [Bool.eq_iff_iff]
  obtain ⟨a1, a2, a3, a4, a5⟩ := a
  obtain ⟨b1, b2, b3, b4, b5⟩ := b
  simp [and_assoc]
end Go.Proofs.YtlmekdfleciejaaGreatDoor
namespace Go.Proofs.YtlmekdfleciejaaGreatDoor
open Go.RowKit
structure Right (c : ChD) : Prop where
  few : c.states.length ≤ 32
  par : ∀ (k : Nat) (s : StD), c.states[k]? = some s → -1 ≤ s.parent ∧ s.parent < k
  top : ∃ (m : Nat) (q : StD), c.initial = m ∧ c.states[m]? = some q ∧ q.parent = -1
theorem firstBad_all {p : Nat → Bool} {n : Nat} (h : firstBad p n = none) (j : Nat) (hj : j < n) : p j = true := by
  unfold firstBad at h
  rw [List.find?_eq_none] at h
  simpa using h j (by simpa using hj)
theorem right_of {c : ChD} (h : (chk c).1 = 0) : Right c := by
  unfold chk at h
  split at h
  · simp at h
  rename_i h1
  split at h
  · simp at h
  split at h
  · simp at h
  split at h
  · simp at h
  rename_i h3
  split at h
  · simp at h
  rename_i h4
  refine ⟨by omega, fun k s hs => ?_, ?_⟩
  · have hk : k < c.states.length := (List.getElem?_eq_some_iff.1 hs).1
    have := firstBad_all h3 k hk
    unfold cStAt at this
    rw [hs] at this
    have hp : parentB c k s = true := by
      simp only [stateB, Bool.and_eq_true] at this
      exact this.1.1.1.2
    simp only [parentB, Bool.or_eq_true, Bool.and_eq_true, decide_eq_true_eq, beq_iff_eq] at hp
    omega
  · have ht : topB c = true := by simpa using h4
    unfold topB at ht
    split at ht
    · rename_i q hq
      simp only [Bool.and_eq_true, beq_iff_eq] at ht
      unfold at_ at hq
      split at hq
      · rename_i h0
        exact ⟨c.initial.toNat, q, by omega, hq, ht.1⟩
      · cases hq
    · cases ht
def low (c : ChD) (n : Nat) (k : Nat) : Bool := match c.states[k]? with
  | some s => decide (s.parent + 1 < n) && !memyB s
  | none => false
end Go.Proofs.YtlmekdfleciejaaGreatDoor
set_option linter.unusedSimpArgs false
namespace Go.Proofs.YtlmekdfleciejaaGreatDoor
open Go.RowKit
set_option maxRecDepth 100000
set_option maxHeartbeats 4000000
theorem cloneI_con (env : Env) (es : List (List AV)) (hl : es.length ≤ 4096) : Con Tryz.prog env 73 [.seq 1 es] (.own 3 1 es) := by
  cases es with
  | nil =>
    refine Con.empty fun A cap => ?_
    cases A with
    | none =>
      refine con_of_body_w Tryz.func73 rfl Tryz.call73 (by rw [Tryz.ntmps73]; simp) ?_
      rw [Tryz.ntmps73, Tryz.results73]
      repeat refine st0 ?_
      (refine awp_ret ?_; refine ⟨_, (by show (resRd _ _ _).run _ = some _; simp only [go_sem]; rfl), ?_⟩)
      exact RStr.own_nil _ _ (by decide)
    | some A =>
      refine con_of_body Tryz.func73 rfl Tryz.call73 (by rw [Tryz.ntmps73]; simp) ?_
      rw [Tryz.ntmps73, Tryz.results73]
      repeat refine st0 ?_
      exact aR0
  | cons d l =>
    have g1 : Fits ((l.length + 1)) 8 := fits_small (by simpa using hl) (by omega)
    refine con_of_body Tryz.func73 rfl Tryz.call73 (by rw [Tryz.ntmps73]; simp) ?_
    rw [Tryz.ntmps73, Tryz.results73]
    have F := g1
    repeat refine st ?_
    exact aR
theorem cloneS_con (env : Env) (es : List (List AV)) (hl : es.length ≤ 4096) : Con Tryz.prog env 84 [.seq 1 es] (.own 9 1 es) := by
  cases es with
  | nil =>
    refine Con.empty fun A cap => ?_
    cases A with
    | none =>
      refine con_of_body_w Tryz.func84 rfl Tryz.call84 (by rw [Tryz.ntmps84]; simp) ?_
      rw [Tryz.ntmps84, Tryz.results84]
      repeat refine st0 ?_
      (refine awp_ret ?_; refine ⟨_, (by show (resRd _ _ _).run _ = some _; simp only [go_sem]; rfl), ?_⟩)
      exact RStr.own_nil _ _ (by decide)
    | some A =>
      refine con_of_body Tryz.func84 rfl Tryz.call84 (by rw [Tryz.ntmps84]; simp) ?_
      rw [Tryz.ntmps84, Tryz.results84]
      repeat refine st0 ?_
      exact aR0
  | cons d l =>
    have g1 : Fits ((l.length + 1)) 16 := fits_small (by simpa using hl) (by omega)
    refine con_of_body Tryz.func84 rfl Tryz.call84 (by rw [Tryz.ntmps84]; simp) ?_
    rw [Tryz.ntmps84, Tryz.results84]
    have F := g1
    repeat refine st ?_
    exact aR
theorem cloneO_con (env : Env) (es : List (List AV)) (hl : es.length ≤ 4096) : Con Tryz.prog env 126 [.seq 2 es] (.own 152 2 es) := by
  cases es with
  | nil =>
    refine Con.empty fun A cap => ?_
    cases A with
    | none =>
      refine con_of_body_w Tryz.func126 rfl Tryz.call126 (by rw [Tryz.ntmps126]; simp) ?_
      rw [Tryz.ntmps126, Tryz.results126]
      repeat refine st0 ?_
      (refine awp_ret ?_; refine ⟨_, (by show (resRd _ _ _).run _ = some _; simp only [go_sem]; rfl), ?_⟩)
      exact RStr.own_nil _ _ (by decide)
    | some A =>
      refine con_of_body Tryz.func126 rfl Tryz.call126 (by rw [Tryz.ntmps126]; simp) ?_
      rw [Tryz.ntmps126, Tryz.results126]
      repeat refine st0 ?_
      exact aR0
  | cons d l =>
    have g1 : Fits ((l.length + 1)) 16 := fits_small (by simpa using hl) (by omega)
    refine con_of_body Tryz.func126 rfl Tryz.call126 (by rw [Tryz.ntmps126]; simp) ?_
    rw [Tryz.ntmps126, Tryz.results126]
    have F := g1
    repeat refine st ?_
    exact aR
theorem cloneV_con (env : Env) (es : List (List AV)) (hl : es.length ≤ 4096) : Con Tryz.prog env 124 [.seq 2 es] (.own 108 2 es) := by
  cases es with
  | nil =>
    refine Con.empty fun A cap => ?_
    cases A with
    | none =>
      refine con_of_body_w Tryz.func124 rfl Tryz.call124 (by rw [Tryz.ntmps124]; simp) ?_
      rw [Tryz.ntmps124, Tryz.results124]
      repeat refine st0 ?_
      (refine awp_ret ?_; refine ⟨_, (by show (resRd _ _ _).run _ = some _; simp only [go_sem]; rfl), ?_⟩)
      exact RStr.own_nil _ _ (by decide)
    | some A =>
      refine con_of_body Tryz.func124 rfl Tryz.call124 (by rw [Tryz.ntmps124]; simp) ?_
      rw [Tryz.ntmps124, Tryz.results124]
      repeat refine st0 ?_
      exact aR0
  | cons d l =>
    have g1 : Fits ((l.length + 1)) 24 := fits_small (by simpa using hl) (by omega)
    refine con_of_body Tryz.func124 rfl Tryz.call124 (by rw [Tryz.ntmps124]; simp) ?_
    rw [Tryz.ntmps124, Tryz.results124]
    have F := g1
    repeat refine st ?_
    exact aR
/-! Few of all -/
def few4 (l : List ActD) : Prop := l.length ≤ 4096 ∧ ∀ a ∈ l, a.code.length ≤ 4096
structure Small (c : ChD) : Prop where
  vars : c.vars.length ≤ 4096
  sts : c.states.length ≤ 4096
  trs : c.trans.length ≤ 4096
  st : ∀ s ∈ c.states, few4 s.inn ∧ few4 s.out
  tr : ∀ t ∈ c.trans, t.guard.length ≤ 4096 ∧ few4 t.acts
theorem codeB_few {l : List OpD} {vs ss : Int} (h : codeB l vs ss = true) : l.length ≤ 32 := by
  unfold codeB codeC at h
  split at h
  · simp at h
  · omega
theorem actsB_few {nv ns : Int} {l : List ActD} (h : actsB nv ns l = true) : few4 l := by
  unfold actsB at h
  rw [Bool.and_eq_true, decide_eq_true_eq, List.all_eq_true] at h
  refine ⟨by omega, fun a ha => ?_⟩
  have hb := h.2 a ha
  unfold actB at hb
  by_cases e : a.code = []
  · rw [e]; simp
  · have : codeB a.code nv ns = true := by
      revert hb
      cases codeB a.code nv ns <;> simp [e]
    have := codeB_few this
    omega
theorem small_of {c : ChD} (h : (chk c).1 = 0) : Small c := by
  have hr := right_of h
  unfold chk at h
  split at h
  · simp at h
  rename_i h1
  split at h
  · simp at h
  split at h
  · simp at h
  split at h
  · simp at h
  rename_i h3
  split at h
  · simp at h
  split at h
  · simp at h
  rename_i h5
  refine ⟨by omega, by omega, by omega, fun s hs => ?_, fun t ht => ?_⟩
  · obtain ⟨k, hk⟩ := List.mem_iff_getElem?.1 hs
    have := firstBad_all h3 k (List.getElem?_eq_some_iff.1 hk).1
    unfold cStAt at this
    rw [hk] at this
    simp only [stateB, Bool.and_eq_true] at this
    exact ⟨actsB_few this.1.2, actsB_few this.2⟩
  · obtain ⟨k, hk⟩ := List.mem_iff_getElem?.1 ht
    have := firstBad_all h5 k (List.getElem?_eq_some_iff.1 hk).1
    unfold cTrAt at this
    rw [hk] at this
    simp only [tranB, Bool.and_eq_true, Bool.or_eq_true] at this
    refine ⟨?_, actsB_few this.1.2⟩
    rcases this.1.1.2 with e | e
    · have : t.guard = [] := by simpa using e
      rw [this]; simp
    · have := codeB_few e
      omega
theorem copyActs_con (env : Env) (l : List ActD) (hl : few4 l) : Con Tryz.prog env 125 [actsAV l] (.own 154 4 (l.map actAV)) := by
  have h1 := hl.1
  refine con_of_body Tryz.func125 rfl Tryz.call125 (by rw [Tryz.ntmps125]; simp) ?_
  rw [Tryz.ntmps125, Tryz.results125]
  repeat refine st0 ?_
  refine awp_nilrow 3 3 154 4 ?_
  refine awp_loopH (D := Nat) (fun j vs => [(3, .row 3 (vs 3)), (6, actsAV l), (7, I l.length), (8, I j)]) (fun j _ => [(3, ⟨4, (l.take j).map actAV, 154, true⟩)]) (fun j _ esc => j ≤ l.length ∧ esc 3 = false) (fun j => l.length - j) 0 ?_ ?_ ?_ ?_
  · exact ⟨Nat.zero_le _, rfl⟩
  · (simp only [go_sem])
  · (simp only [go_sem])
  rintro j ws esc ⟨hj, e0⟩
  by_cases hlt : j < l.length
  · obtain ⟨a, ha⟩ : ∃ a, l[j]? = some a := ⟨l[j], List.getElem?_eq_getElem hlt⟩
    have g1 := nlt hlt
    have g2 := wrap_succ hlt (by omega)
    have f0 := cloneO_con env (a.code.map opAV) (by rw [List.length_map]; exact hl.2 a (List.mem_of_getElem? ha))
    have htl : (l.take j).length = j := by rw [List.length_take]; omega
    have hf : Fits (j + 1) 56 := fits_small (by omega) (by omega)
    have htk : l.take (j + 1) = l.take j ++ [a] := by rw [List.take_add_one, ha]; rfl
    have F := And.intro actAV.eq_1 <| And.intro g1 <| And.intro g2 <| And.intro ha <| And.intro htl <| And.intro hf <| e0
    repeat (first | refine st ?_ | refine cC f0 ?_)
    refine ⟨j + 1, ⟨hlt, by simp only [go_sem, e0]⟩, ?_, ?_, by omega⟩
    · (simp only [go_sem, F])
    · have F := And.intro actAV.eq_1 <| htk
      (simp only [go_sem, List.map_append, F])
  · obtain rfl : j = l.length := by omega
    have g1 : ¬ (l.length : Int) < (l.length : Int) := by omega
    have hta : l.take l.length = l := List.take_length
    have F := And.intro g1 <| And.intro hta <| e0
    repeat refine st ?_
    exact aR
theorem pCopy_con (env : Env) (c : ChD) (hs : Small c) : Con Tryz.prog env 71 [.agg (chAV c)] (.agg (chAV c)) := by
  have hn1 := hs.sts
  have hn2 := hs.trs
  have f0 := cloneV_con env (c.vars.map varAV) (by rw [List.length_map]; exact hs.vars)
  refine con_of_body Tryz.func71 rfl Tryz.call71 (by rw [Tryz.ntmps71]; simp) ?_
  rw [Tryz.ntmps71, Tryz.results71]
  have F := chAV.eq_1
  repeat (first | refine st ?_ | refine cC f0 ?_)
  refine awp_nilcell 3 9000 0 3 ⟨5, [[Sg c.name, I c.initial, .row 14 1, nilS, nilS]], 26, false⟩ [Sg c.name, I c.initial, .row 14 1, nilS, nilS] 34 6 (by decide) (by decide) (Nat.succ_ne_zero 4) rfl rfl rfl (by simp only [go_sem, F]; exact iR) (by simp only [go_sem, F]; exact iR) ?_
  refine awp_nilcell 3 9001 0 4 ⟨5, [[Sg c.name, I c.initial, .row 14 1, .row 9000 1, nilS]], 26, false⟩ [Sg c.name, I c.initial, .row 14 1, .row 9000 1, nilS] 76 5 (by decide) (by decide) (Nat.succ_ne_zero 4) rfl rfl rfl (by simp only [go_sem, F]; exact iR) (by simp only [go_sem, F]; exact iR) ?_
  refine awp_loopH (D := Nat) (fun j vs => [(1, .loc 1 (vs 1) 0 0), (2, .loc 2 (vs 2) 0 0), (3, .loc 3 (vs 3) 0 0), (17, stsAV c.states), (18, I c.states.length), (19, I j)])
    (fun j vs => [(1, ⟨5, [chAV c], 26, false⟩), (2, ⟨5, [[Sg [], I 0, nilS, nilS, nilS]], 26, false⟩), (3, ⟨5, [[Sg c.name, I c.initial, .row 14 (vs 14), .row 9000 (vs 9000), .row 9001 (vs 9001)]], 26, false⟩), (14, ⟨2, c.vars.map varAV, 108, true⟩), (9000, ⟨6, (c.states.take j).map stAV, 34, true⟩), (9001, ⟨5, [], 76, true⟩)])
    (fun j _ esc => j ≤ c.states.length ∧ esc 2 = false ∧ esc 3 = false ∧ esc 14 = false ∧ esc 9000 = false ∧ esc 9001 = false) (fun j => c.states.length - j) 0 ?_ ?_ ?_ ?_
  · refine ⟨Nat.zero_le _, ?_, ?_, ?_, ?_, ?_⟩ <;> simp only [go_sem]
  · (simp only [go_sem, F])
  · have F := chAV.eq_1
    (simp only [go_sem, F])
  rintro j ws esc ⟨hj, e0, e1, e2, e3, e4⟩
  by_cases hlt : j < c.states.length
  · obtain ⟨s, hss⟩ : ∃ s, c.states[j]? = some s := ⟨c.states[j], List.getElem?_eq_getElem hlt⟩
    have g1 := nlt hlt
    have g2 := wrap_succ hlt (by omega)
    have f1 := copyActs_con env s.inn (hs.st s (List.mem_of_getElem? hss)).1
    have f2 := copyActs_con env s.out (hs.st s (List.mem_of_getElem? hss)).2
    have htl : (c.states.take j).length = j := by rw [List.length_take]; omega
    have hf : Fits (j + 1) 88 := fits_small (by omega) (by omega)
    have htk : c.states.take (j + 1) = c.states.take j ++ [s] := by rw [List.take_add_one, hss]; rfl
    have F := And.intro chAV.eq_1 <| And.intro stAV.eq_1 <| And.intro g1 <| And.intro g2 <| And.intro hss <| And.intro htl <| And.intro hf <| And.intro e0 <| And.intro e1 <| And.intro e2 <| And.intro e3 <| e4
    repeat (first | refine st ?_ | refine cC f1 ?_ | refine cC f2 ?_)
    refine ⟨j + 1, ⟨hlt, ?_, ?_, ?_, ?_, ?_⟩, ?_, ?_, by omega⟩
    all_goals (first | (show _ = false; simp only [go_sem, e0, e1, e2, e3, e4]; done) | skip)
    · (simp only [go_sem, F])
    · have F := And.intro chAV.eq_1 <| And.intro stAV.eq_1 <| And.intro htk <| And.intro e0 <| And.intro e1 <| And.intro e2 <| And.intro e3 <| e4
      (simp only [go_sem, List.map_append, F])
  obtain rfl : j = c.states.length := by omega
  have g1 : ¬ (c.states.length : Int) < (c.states.length : Int) := by omega
  have hta : c.states.take c.states.length = c.states := List.take_length
  have F := And.intro chAV.eq_1 <| And.intro g1 <| And.intro hta <| And.intro e0 <| And.intro e1 <| And.intro e2 <| And.intro e3 <| e4
  repeat refine st ?_
  refine awp_loopH (D := Nat) (fun j vs => [(1, .loc 1 (vs 1) 0 0), (2, .loc 2 (vs 2) 0 0), (3, .loc 3 (vs 3) 0 0), (39, trsAV c.trans), (40, I c.trans.length), (41, I j)])
    (fun j vs => [(1, ⟨5, [chAV c], 26, false⟩), (2, ⟨5, [[Sg [], I 0, nilS, nilS, nilS]], 26, false⟩), (3, ⟨5, [[Sg c.name, I c.initial, .row 14 (vs 14), .row 9000 (vs 9000), .row 9001 (vs 9001)]], 26, false⟩), (14, ⟨2, c.vars.map varAV, 108, true⟩), (9000, ⟨6, c.states.map stAV, 34, true⟩), (9001, ⟨5, (c.trans.take j).map trAV, 76, true⟩)])
    (fun j _ esc => j ≤ c.trans.length ∧ esc 2 = false ∧ esc 3 = false ∧ esc 14 = false ∧ esc 9000 = false ∧ esc 9001 = false) (fun j => c.trans.length - j) 0 ?_ ?_ ?_ ?_
  · refine ⟨Nat.zero_le _, ?_, ?_, ?_, ?_, ?_⟩ <;> simp only [go_sem, e0, e1, e2, e3, e4]
  · (simp only [go_sem, F])
  · have F := chAV.eq_1
    (simp only [go_sem, F])
  try clear e0 e1 e2 e3 e4
  rintro j ws esc ⟨hj, e0, e1, e2, e3, e4⟩
  by_cases hlt : j < c.trans.length
  · obtain ⟨t, hss⟩ : ∃ s, c.trans[j]? = some s := ⟨c.trans[j], List.getElem?_eq_getElem hlt⟩
    have g1 := nlt hlt
    have g2 := wrap_succ hlt (by omega)
    have htm := hs.tr t (List.mem_of_getElem? hss)
    have f1 := cloneO_con env (t.guard.map opAV) (by rw [List.length_map]; exact htm.1)
    have f2 := copyActs_con env t.acts htm.2
    have htl : (c.trans.take j).length = j := by rw [List.length_take]; omega
    have hf : Fits (j + 1) 80 := fits_small (by omega) (by omega)
    have htk : c.trans.take (j + 1) = c.trans.take j ++ [t] := by rw [List.take_add_one, hss]; rfl
    have F := And.intro chAV.eq_1 <| And.intro trAV.eq_1 <| And.intro g1 <| And.intro g2 <| And.intro hss <| And.intro htl <| And.intro hf <| And.intro e0 <| And.intro e1 <| And.intro e2 <| And.intro e3 <| e4
    repeat (first | refine st ?_ | refine cC f1 ?_ | refine cC f2 ?_)
    refine ⟨j + 1, ⟨hlt, ?_, ?_, ?_, ?_, ?_⟩, ?_, ?_, by omega⟩
    all_goals (first | (show _ = false; simp only [go_sem, e0, e1, e2, e3, e4]; done) | skip)
    · (simp only [go_sem, F])
    · have F := And.intro chAV.eq_1 <| And.intro trAV.eq_1 <| And.intro htk <| And.intro e0 <| And.intro e1 <| And.intro e2 <| And.intro e3 <| e4
      (simp only [go_sem, List.map_append, F])
  obtain rfl : j = c.trans.length := by omega
  have g1 : ¬ (c.trans.length : Int) < (c.trans.length : Int) := by omega
  have hta : c.trans.take c.trans.length = c.trans := List.take_length
  have F := And.intro chAV.eq_1 <| And.intro g1 <| And.intro hta <| And.intro e0 <| And.intro e1 <| And.intro e2 <| And.intro e3 <| e4
  repeat refine st ?_
  exact aR
end Go.Proofs.YtlmekdfleciejaaGreatDoor
