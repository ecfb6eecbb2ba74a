/- Reverse and Compact of the library at ints: the shelf's contracts laid at this program. -/
import Derived.Test.YtlmekdfleciejaaGreatDoorG1
import Derived.Test.YtlmekdfleciejaaGreatDoorG2
import Derived.Test.YtlmekdfleciejaaGreatDoorM8
import Derived.Test.YtlmekdfleciejaaGreatDoorG3
import Derived.Test.YtlmekdfleciejaaGreatDoorG5
import Derived.Shelf.Slices.Reverse
import Derived.Shelf.Slices.CompactI
set_option linter.unusedSimpArgs false
namespace Go.Proofs.YtlmekdfleciejaaGreatDoor
open Go.RowKit
set_option maxRecDepth 100000
set_option maxHeartbeats 8000000
theorem rUp27_con (env : Env) (c : ChD) (hc : Right c) (i : Int) : Con Tryz.prog env 113 [.agg (chAV c), I i] (.own 3 1 ((upL c i).map intAV)) := by
  have hlen := hc.few
  have hul : (upL c i).length ≤ 40 := up_len 40 i
  refine con_of_body Tryz.func113 rfl Tryz.call113 (by rw [Tryz.ntmps113]; simp) ?_
  rw [Tryz.ntmps113, Tryz.results113]
  have F := chAV.eq_1
  repeat refine st ?_
  refine awp_loopH (D := Int × List Int) (fun d vs => [(1, I d.1), (2, .loc 2 (vs 2) 0 0), (5, .row 7 (vs 7)), (6, I d.2.length)]) (fun d _ => [(2, ⟨5, [chAV c], 26, false⟩), (7, ⟨1, d.2.map intAV, 3, true⟩)]) (fun d _ esc => upL c i = d.2 ++ upL c d.1 ∧ esc 7 = false ∧ (d.2 = [] ∨ d.2.length < 40 - (d.1 + 1).toNat ∨ d.1 < 40)) (fun d => (d.1 + 1).toNat) (i, []) ?_ ?_ ?_ ?_
  · exact ⟨rfl, rfl, .inl rfl⟩
  · (simp only [go_sem, F])
    try rfl
  · have F := chAV.eq_1
    (simp only [go_sem, F])
    try rfl
  rintro ⟨d, l⟩ ws esc ⟨hu, e0, -⟩
  simp only at hu
  have f0 := rIs_con env c d
  have hll : l.length ≤ 40 := by have := congrArg List.length hu; rw [List.length_append] at this; omega
  cases hz : inZ c d with
  | false =>
    rw [hz] at f0
    rw [up_out hz, List.append_nil] at hu
    by_cases h40 : l.length < 40
    · have q1 : (l.length : Int) < 40 := by omega
      have F := And.intro chAV.eq_1 <| And.intro q1 <| And.intro hu <| e0
      repeat (first | refine st ?_ | refine cC f0 ?_)
      exact aR
    · have q1 : ¬ (l.length : Int) < 40 := by omega
      have F := And.intro chAV.eq_1 <| And.intro q1 <| And.intro hu <| e0
      repeat (first | refine st ?_ | refine cC f0 ?_)
      exact aR
  | true =>
    rw [hz] at f0
    obtain ⟨k, s, rfl, hs, ha⟩ := at_in hz
    have hp := par_nat hs
    have hlt := par_lt hc hz
    rw [hp] at hlt
    rw [up_cons hc hz, hp] at hu
    have hl : l.length + 1 ≤ 40 := by
      have := congrArg List.length hu
      rw [List.length_append, List.length_cons] at this
      omega
    have q1 : (l.length : Int) < 40 := by omega
    have q2 : ((k : Nat) : Int) < (c.states.length : Int) := by have := (inZ_iff.1 hz).2; omega
    have q3 : IntKind.i64.wrap ((l.length : Int) + 1) = ((l.length + 1 : Nat) : Int) := wrap_succ (Nat.lt_succ_self _) (by omega)
    have hf : Fits (l.length + 1) 8 := ⟨by omega, by omega⟩
    have F := And.intro chAV.eq_1 <| And.intro stAV.eq_1 <| And.intro q1 <| And.intro q2 <| And.intro q3 <| And.intro hs <| And.intro hf <| e0
    repeat (first | refine st ?_ | refine cC f0 ?_)
    refine ⟨(s.parent, l ++ [s.parent]), ⟨?_, by simp only [go_sem, e0], ?_⟩, ?_, ?_, ?_⟩
    · show upL c i = (l ++ [s.parent]) ++ upL c s.parent
      rw [hu, List.append_assoc]
      rfl
    · exact .inr (.inr (by show s.parent < 40; omega))
    · simp only [List.length_append, List.length_singleton]
      (simp only [go_sem, F])
    · have F := chAV.eq_1
      (simp only [go_sem, List.map_append, F])
    · show (s.parent + 1).toNat < ((k : Int) + 1).toNat
      omega
theorem rAbove27_con (env : Env) (c : ChD) (hc : Right c) (k i : Int) : Con Tryz.prog env 57 [.agg (chAV c), I k, I i] (B (aboveB c k i)) := by
  have hul : (upL c i).length ≤ 40 := up_len 40 i
  have f0 := rUp27_con env c hc i
  have f1 := rInI_con env (upL c i) k (by omega)
  unfold chAV at f0
  unfold aboveB
  refine con_of_body Tryz.func57 rfl Tryz.call57 (by rw [Tryz.ntmps57]; simp) ?_
  rw [Tryz.ntmps57, Tryz.results57]
  have F := chAV.eq_1
  repeat (first | refine st ?_ | refine cC f0 ?_ | refine cC f1 ?_)
  exact aR
theorem above_mask {c : ChD} (hc : Right c) {k i : Nat} (_hi : i < c.states.length) : (mask c i).testBit k = aboveB c k i := by
  unfold aboveB upL mask
  rw [mask_bit hc, Bool.eq_iff_iff, decide_eq_true_eq, List.contains_iff_mem]
theorem tabove_con (env : Env) (c : ChD) (hc : Right c) (k i : Int) : Con Tryz.prog env 168 [treeAV c, I k, I i] (B (aboveB c k i)) := by
  have hlen := hc.few
  have f0 := tis_con env c i
  cases hz : inZ c i with
  | false =>
    rw [hz] at f0
    have : aboveB c k i = false := by unfold aboveB; rw [up_out hz]; rfl
    rw [this]
    refine con_of_body Tryz.func168 rfl Tryz.call168 (by rw [Tryz.ntmps168]; simp) ?_
    rw [Tryz.ntmps168, Tryz.results168]
    repeat (first | refine st0 ?_ | refine cC0 f0 ?_)
    exact aR0
  | true =>
    rw [hz] at f0
    obtain ⟨m, s, rfl, hs, ha⟩ := at_in hz
    have hm := (List.getElem?_eq_some_iff.1 hs).1
    by_cases e : k = -1
    · subst e
      have : aboveB c (-1) m = true := by unfold aboveB; rw [List.contains_iff_mem]; exact up_root hc (m + 1) m hz (by omega)
      rw [this]
      refine con_of_body Tryz.func168 rfl Tryz.call168 (by rw [Tryz.ntmps168]; simp) ?_
      rw [Tryz.ntmps168, Tryz.results168]
      repeat (first | refine st0 ?_ | refine cC0 f0 ?_)
      exact aR0
    · have e1 : (k == -1) = false := by simpa using e
      have f1 := tis_con env c k
      cases hk : inZ c k with
      | false =>
        rw [hk] at f1
        have : aboveB c k m = false := by
          cases hb : aboveB c k m with
          | false => rfl
          | true =>
            unfold aboveB at hb
            have h1 := up_lt hc 40 _ _ (List.contains_iff_mem.1 hb)
            rw [inZ_iff.2 ⟨by omega, by omega⟩] at hk
            cases hk
        rw [this]
        refine con_of_body Tryz.func168 rfl Tryz.call168 (by rw [Tryz.ntmps168]; simp) ?_
        rw [Tryz.ntmps168, Tryz.results168]
        have F := e1
        repeat (first | refine st ?_ | refine cC f0 ?_ | refine cC f1 ?_)
        exact aR
      | true =>
        rw [hk] at f1
        obtain ⟨p, sp, rfl, hps, _⟩ := at_in hk
        have hpl := (List.getElem?_eq_some_iff.1 hps).1
        have hml : mask c m < 4294967296 := mask_small hc (by omega)
        have f2 := thas_con env (mask c m) hml p (by omega)
        rw [above_mask hc hm] at f2
        have g1 : (mkTo c c.states.length)[m]? = some (mask c m) := by rw [mkTo_at hm, if_pos hm]
        have g2 : ((m : Nat) : Int) < (c.states.length : Int) := by omega
        have g3 := mkTo_len c c.states.length
        refine con_of_body Tryz.func168 rfl Tryz.call168 (by rw [Tryz.ntmps168]; simp) ?_
        rw [Tryz.ntmps168, Tryz.results168]
        have F := And.intro treeAV.eq_1 <| And.intro umAV.eq_1 <| And.intro e1 <| And.intro g1 <| And.intro g2 <| g3
        repeat (first | refine st ?_ | refine cC f0 ?_ | refine cC f1 ?_ | refine cC f2 ?_)
        exact aR
def idxFromZ : List Int → Int → Nat → Int
  | [], _, _ => -1
  | x :: l, v, k => if x = v then k else idxFromZ l v (k + 1)
theorem idxZ_step {l : List Int} {v : Int} {k : Nat} {x : Int} (h : l[k]? = some x) (hn : idxFromZ l v 0 = idxFromZ (l.drop k) v k) : (x = v → idxFromZ l v 0 = k) ∧ (x ≠ v → idxFromZ l v 0 = idxFromZ (l.drop (k + 1)) v (k + 1)) := by
  obtain ⟨hk, rfl⟩ := List.getElem?_eq_some_iff.1 h
  rw [List.drop_eq_getElem_cons hk] at hn
  simp only [idxFromZ] at hn
  exact ⟨fun e => by rw [hn, if_pos e], fun e => by rw [hn, if_neg e]⟩
theorem idxZ_in (v : Int) : ∀ (l : List Int) (k : Nat), decide (0 ≤ idxFromZ l v k) = l.contains v
  | [], k => rfl
  | x :: l, k => by
    have ih := idxZ_in v l (k + 1)
    by_cases e : x = v
    · have e1 : idxFromZ (x :: l) v k = k := if_pos e
      rw [e1, Bool.eq_iff_iff, decide_eq_true_eq, List.contains_iff_mem]
      exact ⟨fun _ => by rw [e]; exact List.mem_cons_self .., fun _ => by omega⟩
    · have e1 : idxFromZ (x :: l) v k = idxFromZ l v (k + 1) := if_neg e
      rw [e1, ih, Bool.eq_iff_iff, List.contains_iff_mem, List.contains_iff_mem, List.mem_cons]
      exact ⟨.inr, fun h => h.resolve_left fun h => e h.symm⟩
theorem indexZ_con (env : Env) (l : List Int) (v : Int) (hl : l.length ≤ 1000000) : Con Tryz.prog env 131 [.seq 1 (l.map intAV), I v] (I (idxFromZ l v 0)) := by
  refine con_of_body Tryz.func131 rfl Tryz.call131 (by rw [Tryz.ntmps131]; simp) ?_
  rw [Tryz.ntmps131, Tryz.results131]
  repeat refine st0 ?_
  refine awp_loopH (D := Nat) (fun k _ => [(0, .seq 1 (l.map intAV)), (1, I v), (7, I l.length), (8, I k)]) (fun _ _ => []) (fun k _ _ => k ≤ l.length ∧ idxFromZ l v 0 = idxFromZ (l.drop k) v k) (fun k => l.length - k) 0 ?_ ?_ ?_ ?_
  · exact ⟨Nat.zero_le _, rfl⟩
  · (simp only [go_sem])
  · (simp only [go_sem])
  rintro k ws esc ⟨hk, hi⟩
  by_cases hlt : k < l.length
  · obtain ⟨x, hx, _⟩ := some_at hlt
    obtain ⟨yes, no⟩ := idxZ_step hx hi
    have k1 := nlt hlt
    have k2 := wrap_succ hlt (by omega)
    by_cases e : x = v
    · rw [yes e]
      have k3 : (v == x) = true := by simp [e]
      have F := And.intro k1 <| And.intro k2 <| And.intro k3 <| hx
      repeat refine st ?_
      exact aR
    · have k3 : (v == x) = false := by simpa using fun h => e h.symm
      have F := And.intro k1 <| And.intro k2 <| And.intro k3 <| hx
      repeat refine st ?_
      refine ⟨k + 1, ⟨hlt, no e⟩, ?_, ?_, ?_⟩
      · (simp only [go_sem, F])
      · (simp only [go_sem, F])
      · omega
  · have k1 : ¬ (k : Int) < (l.length : Int) := by omega
    rw [hi, List.drop_of_length_le (by omega), show idxFromZ [] v k = -1 from rfl]
    have F := k1
    repeat refine st ?_
    exact aR
theorem containsZ_con (env : Env) (l : List Int) (v : Int) (hl : l.length ≤ 1000000) : Con Tryz.prog env 82 [.seq 1 (l.map intAV), I v] (B (l.contains v)) := by
  have h := idxZ_in v l 0
  refine con_of_body Tryz.func82 rfl Tryz.call82 (by rw [Tryz.ntmps82]; simp) ?_
  rw [Tryz.ntmps82, Tryz.results82]
  repeat (first | refine st0 ?_ | refine cC0 (indexZ_con env l v hl) ?_)
  (refine awp_ret ?_; show (resRd _ _ _).run _ = some _; simp only [go_sem])
  exact congrArg B h
def isT (c : ChD) (n : Int) : Bool := decide (0 ≤ n) && decide (n < c.trans.length)
theorem isT_at {c : ChD} {n : Int} (h : isT c n = true) : ∃ (k : Nat) (t : TrD), n = (k : Int) ∧ c.trans[k]? = some t := by
  unfold isT at h
  rw [Bool.and_eq_true, decide_eq_true_eq, decide_eq_true_eq] at h
  exact ⟨n.toNat, c.trans[n.toNat]'(by omega), by omega, List.getElem?_eq_getElem _⟩
abbrev noTr : AV := .agg [I 0, Sg [], nilS, nilS, I 0]
theorem tran_con (env : Env) (c : ChD) (hs : Small c) (k : Nat) (t : TrD) (ht : c.trans[k]? = some t) : Con Tryz.prog env 105 [tabAV c, I k] (.tuple [.agg (trAV t), B true]) := by
  have f0 := tabChart_con env c hs
  have hk := (List.getElem?_eq_some_iff.1 ht).1
  have g1 : ((k : Nat) : Int) < (c.trans.length : Int) := by omega
  have g2 : ¬ (c.trans.length : Int) ≤ (k : Int) := by omega
  have g3 : ¬ ((k : Nat) : Int) < 0 := by omega
  refine con_of_body Tryz.func105 rfl Tryz.call105 (by rw [Tryz.ntmps105]; simp) ?_
  rw [Tryz.ntmps105, Tryz.results105]
  have F := And.intro chAV.eq_1 <| And.intro trAV.eq_1 <| And.intro g1 <| And.intro g2 <| And.intro g3 <| ht
  repeat (first | refine st ?_ | refine cC f0 ?_)
  exact aR
theorem tranN_con (env : Env) (c : ChD) (hs : Small c) (n : Int) (h : isT c n = false) : Con Tryz.prog env 105 [tabAV c, I n] (.tuple [noTr, B false]) := by
  have f0 := tabChart_con env c hs
  by_cases h0 : n < 0
  · refine con_of_body Tryz.func105 rfl Tryz.call105 (by rw [Tryz.ntmps105]; simp) ?_
    rw [Tryz.ntmps105, Tryz.results105]
    have F := And.intro chAV.eq_1 <| h0
    repeat (first | refine st ?_ | refine cC f0 ?_)
    exact aR
  · have h1 : (c.trans.length : Int) ≤ n := by
      unfold isT at h
      rw [decide_eq_true (by omega), Bool.true_and, decide_eq_false_iff_not] at h
      omega
    refine con_of_body Tryz.func105 rfl Tryz.call105 (by rw [Tryz.ntmps105]; simp) ?_
    rw [Tryz.ntmps105, Tryz.results105]
    have F := And.intro chAV.eq_1 <| And.intro h0 <| h1
    repeat (first | refine st ?_ | refine cC f0 ?_)
    exact aR
theorem plain_at {c : ChD} {k : Nat} {s : StD} (hs : c.states[k]? = some s) : plainZ c k = (s.kind == 1) := by unfold plainZ; rw [at_nat, hs]
theorem domain_con (env : Env) (c : ChD) (hc : Right c) (hs : Small c) (t : TrD) (_hsrc : inZ c t.src = true) : Con Tryz.prog env 112 [tabAV c, .agg (trAV t)] (I (domE c t.src t.target)) := by
  have hlen := hc.few
  have f0 := tabChart_con env c hs
  have f1 := tabTree_con env c
  have f2 := tup_con env c hc t.src
  have hul : (upL c t.src).length ≤ 40 := up_len 40 t.src
  have hrange : ∀ x ∈ upL c t.src, x < 0 ∨ inZ c x = true := fun x hx => by
    rcases Int.lt_or_le x 0 with h | h
    · exact .inl h
    · exact .inr (above_in hc hx h).1
  unfold domE
  generalize upL c t.src = U at *
  unfold tabAV at f0 f1 ⊢
  refine con_of_body Tryz.func112 rfl Tryz.call112 (by rw [Tryz.ntmps112]; simp) ?_
  rw [Tryz.ntmps112, Tryz.results112]
  have F := trAV.eq_1
  repeat (first | refine st ?_ | refine cC f0 ?_ | refine cC f1 ?_ | refine cC f2 ?_)
  refine awp_loopH (D := Nat) (fun j vs => [(0, .ref 9 [tabCells c] 0 0), (3, .loc 3 (vs 3) 0 0), (5, .loc 5 (vs 5) 0 0), (14, .row 14 (vs 14)), (15, I U.length), (16, I j)]) (fun j _ => [(3, ⟨5, [trAV t], 76, false⟩), (5, ⟨5, [chAV c], 26, false⟩), (14, ⟨1, U.map intAV, 3, true⟩)]) (fun j _ _ => j ≤ U.length ∧ U.find? (domP c t.target) = (U.drop j).find? (domP c t.target)) (fun j => U.length - j) 0 ?_ ?_ ?_ ?_
  · exact ⟨Nat.zero_le _, rfl⟩
  · have F := And.intro trAV.eq_1 <| chAV.eq_1
    (simp only [go_sem, F])
    try rfl
  · have F := And.intro trAV.eq_1 <| chAV.eq_1
    (simp only [go_sem, F])
    try rfl
  rintro j ws esc ⟨hj, hf⟩
  by_cases hlt : j < U.length
  · obtain ⟨x, hx⟩ : ∃ x, U[j]? = some x := ⟨U[j], List.getElem?_eq_getElem hlt⟩
    have q1 := nlt hlt
    have q2 := wrap_succ hlt (by omega)
    rw [find_drop hx] at hf
    rcases hrange x (List.mem_of_getElem? hx) with h0 | hz
    · have hd : domP c t.target x = true := by unfold domP; rw [decide_eq_true h0]; rfl
      rw [hd] at hf
      simp only [if_true] at hf
      rw [hf, Option.getD_some]
      have F := And.intro hx <| q1
      repeat (first | refine oO rfl (by simp only [go_sem, h0, F]; exact ⟨rfl, rfl⟩) ?_ | refine gR ?_ | refine gO ?_ | refine oZ (d_end ?_) | refine oZ ?_ | refine oS ?_ | refine gT ?_ | refine gD Tryz.mixed ?_ | refine oB ?_ | refine oK ?_ | (refine oX ?_; simp only [thenA, blockA, ↓reduceIte, Nat.reduceEqDiff, reduceCtorEq]) | refine oY (by simp only [go_sem, h0, F]; exact iR) ?_ | refine oN (by simp only [go_sem, h0, F]; exact iR) ?_)
      (refine awp_ret ?_; show (resRd _ _ _).run _ = some _; simp only [go_sem, h0, F])
    · obtain ⟨k, s, rfl, hsk, _⟩ := at_in hz
      have hk := (List.getElem?_eq_some_iff.1 hsk).1
      have h0 : ¬ ((k : Nat) : Int) < 0 := by omega
      have q3 : ((k : Nat) : Int) < (c.states.length : Int) := by omega
      have hdp : domP c t.target (k : Int) = (plainZ c (k : Int) && aboveB c (k : Int) t.target) := by unfold domP; rw [decide_eq_false h0, Bool.false_or]
      have hpl := plain_at hsk
      have f3 := tabove_con env c hc k t.target
      cases hk1 : (s.kind == 1) with
      | false =>
        rw [hdp, hpl, hk1, Bool.false_and] at hf
        simp only [Bool.false_eq_true, if_false] at hf
        have F := And.intro trAV.eq_1 <| And.intro chAV.eq_1 <| And.intro stAV.eq_1 <| And.intro hx <| And.intro hsk <| And.intro q1 <| And.intro q2 <| And.intro q3 <| And.intro h0 <| hk1
        repeat (first | refine st ?_ | refine cC f1 ?_)
        refine ⟨j + 1, ⟨hlt, hf⟩, ?_, ?_, by omega⟩
        · (simp only [go_sem, F])
        · have F := And.intro trAV.eq_1 <| chAV.eq_1
          (simp only [go_sem, F])
      | true =>
        rw [hdp, hpl, hk1, Bool.true_and] at hf
        cases hab : aboveB c (k : Int) t.target with
        | false =>
          rw [hab] at hf f3
          simp only [Bool.false_eq_true, if_false] at hf
          unfold treeAV at f1 f3
          have F := And.intro trAV.eq_1 <| And.intro chAV.eq_1 <| And.intro stAV.eq_1 <| And.intro hx <| And.intro hsk <| And.intro q1 <| And.intro q2 <| And.intro q3 <| And.intro h0 <| hk1
          repeat (first | refine st ?_ | refine cC f1 ?_ | refine cC f3 ?_)
          refine ⟨j + 1, ⟨hlt, hf⟩, ?_, ?_, by omega⟩
          · (simp only [go_sem, F])
          · have F := And.intro trAV.eq_1 <| chAV.eq_1
            (simp only [go_sem, F])
        | true =>
          rw [hab] at hf f3
          simp only [if_true] at hf
          rw [hf, Option.getD_some]
          unfold treeAV at f1 f3
          have F := And.intro trAV.eq_1 <| And.intro chAV.eq_1 <| And.intro stAV.eq_1 <| And.intro hx <| And.intro hsk <| And.intro q1 <| And.intro q2 <| And.intro q3 <| And.intro h0 <| hk1
          repeat (first | refine st ?_ | refine cC f1 ?_ | refine cC f3 ?_)
          exact aR
  · obtain rfl : j = U.length := by omega
    have q1 : ¬ (U.length : Int) < (U.length : Int) := by omega
    rw [List.drop_length] at hf
    rw [hf]
    simp only [List.find?_nil, Option.getD_none]
    have F := q1
    repeat refine st ?_
    exact aR
theorem Full.src {c : ChD} (h : Full c) {k : Nat} {t : TrD} (ht : c.trans[k]? = some t) : inZ c t.src = true ∧ (t.target = -1 ∨ inZ c t.target = true) := by
  have := h.tr k t ht
  unfold tranB at this
  simp only [Bool.and_eq_true, Bool.or_eq_true, beq_iff_eq, decide_eq_true_eq] at this
  refine ⟨?_, this.2.imp id fun q => inZ_iff.2 q⟩
  have h1 := this.1.1.1.1
  unfold normAt at h1
  split at h1
  · rename_i s hs
    unfold at_ at hs
    split at hs
    · rename_i h0
      have := (List.getElem?_eq_some_iff.1 hs).1
      exact inZ_iff.2 ⟨h0, by omega⟩
    · cases hs
  · cases h1
theorem Domain_con (env : Env) (c : ChD) (h : Full c) (hs : Small c) (k : Nat) (t : TrD) (ht : c.trans[k]? = some t) : Con Tryz.prog env 56 [tabAV c, I k] (.tuple [I (if t.target < 0 then 0 else domE c t.src t.target), B (!decide (t.target < 0))]) := by
  have f0 := tran_con env c hs k t ht
  have f1 := domain_con env c h.toRight hs t (h.src ht).1
  unfold trAV at f0 f1
  unfold tabAV at f0 f1 ⊢
  by_cases h0 : t.target < 0
  · rw [if_pos h0, decide_eq_true h0]
    refine con_of_body Tryz.func56 rfl Tryz.call56 (by rw [Tryz.ntmps56]; simp) ?_
    rw [Tryz.ntmps56, Tryz.results56]
    have F := h0
    repeat (first | refine st ?_ | refine cC f0 ?_ | refine cC f1 ?_)
    exact aR
  · rw [if_neg h0, decide_eq_false h0]
    refine con_of_body Tryz.func56 rfl Tryz.call56 (by rw [Tryz.ntmps56]; simp) ?_
    rw [Tryz.ntmps56, Tryz.results56]
    have F := h0
    repeat (first | refine st ?_ | refine cC f0 ?_ | refine cC f1 ?_)
    exact aR
theorem DomainN_con (env : Env) (c : ChD) (hs : Small c) (n : Int) (h : isT c n = false) : Con Tryz.prog env 56 [tabAV c, I n] (.tuple [I 0, B false]) := by
  have f0 := tranN_con env c hs n h
  unfold tabAV at f0 ⊢
  refine con_of_body Tryz.func56 rfl Tryz.call56 (by rw [Tryz.ntmps56]; simp) ?_
  rw [Tryz.ntmps56, Tryz.results56]
  repeat (first | refine st0 ?_ | refine cC0 f0 ?_)
  exact aR0
theorem rIs30_con (env : Env) (c : ChD) (n : Int) : Con Tryz.prog env 48 [.agg (chAV c), I n] (B (isT c n)) := by
  unfold isT
  by_cases h0 : 0 ≤ n
  · by_cases h1 : n < (c.trans.length : Int)
    · refine con_of_body Tryz.func48 rfl Tryz.call48 (by rw [Tryz.ntmps48]; simp) ?_
      rw [Tryz.ntmps48, Tryz.results48]
      have F := And.intro chAV.eq_1 <| And.intro h0 <| h1
      repeat refine st ?_
      exact aR
    · refine con_of_body Tryz.func48 rfl Tryz.call48 (by rw [Tryz.ntmps48]; simp) ?_
      rw [Tryz.ntmps48, Tryz.results48]
      have F := And.intro chAV.eq_1 <| And.intro h0 <| h1
      repeat refine st ?_
      exact aR
  · refine con_of_body Tryz.func48 rfl Tryz.call48 (by rw [Tryz.ntmps48]; simp) ?_
    rw [Tryz.ntmps48, Tryz.results48]
    have F := And.intro chAV.eq_1 <| h0
    repeat refine st ?_
    exact aR
theorem rDomain30_con (env : Env) (c : ChD) (hc : Right c) (t : TrD) (_hsrc : inZ c t.src = true) : Con Tryz.prog env 68 [.agg (chAV c), .agg (trAV t)] (I (domE c t.src t.target)) := by
  have hlen := hc.few
  have f2 := rUp27_con env c hc t.src
  have hul : (upL c t.src).length ≤ 40 := up_len 40 t.src
  have hrange : ∀ x ∈ upL c t.src, x = -1 ∨ inZ c x = true := fun x hx => by
    rcases Int.lt_or_le x 0 with h | h
    · have := (up_lt hc 40 _ _ hx).1
      exact .inl (by omega)
    · exact .inr (above_in hc hx h).1
  unfold domE
  generalize upL c t.src = U at *
  unfold chAV at f2
  refine con_of_body Tryz.func68 rfl Tryz.call68 (by rw [Tryz.ntmps68]; simp) ?_
  rw [Tryz.ntmps68, Tryz.results68]
  have F := And.intro trAV.eq_1 <| chAV.eq_1
  repeat (first | refine st ?_ | refine cC f2 ?_)
  refine awp_loopH (D := Nat) (fun j vs => [(2, .loc 2 (vs 2) 0 0), (3, .loc 3 (vs 3) 0 0), (5, .row 10 (vs 10)), (6, I j)]) (fun j _ => [(2, ⟨5, [chAV c], 26, false⟩), (3, ⟨5, [trAV t], 76, false⟩), (10, ⟨1, U.map intAV, 3, true⟩)]) (fun j _ _ => j ≤ U.length ∧ U.find? (domP c t.target) = (U.drop j).find? (domP c t.target)) (fun j => U.length - j) 0 ?_ ?_ ?_ ?_
  · exact ⟨Nat.zero_le _, rfl⟩
  · have F := And.intro trAV.eq_1 <| chAV.eq_1
    (simp only [go_sem, F])
    try rfl
  · have F := And.intro trAV.eq_1 <| chAV.eq_1
    (simp only [go_sem, F])
    try rfl
  rintro j ws esc ⟨hj, hf⟩
  by_cases hlt : j < U.length
  · obtain ⟨x, hx⟩ : ∃ x, U[j]? = some x := ⟨U[j], List.getElem?_eq_getElem hlt⟩
    have q1 := nlt hlt
    have q2 := wrap_succ hlt (by omega)
    rw [find_drop hx] at hf
    rcases hrange x (List.mem_of_getElem? hx) with rfl | hz
    · have hd : domP c t.target (-1) = true := by unfold domP; rw [decide_eq_true (by omega)]; rfl
      rw [hd] at hf
      simp only [if_true] at hf
      rw [hf, Option.getD_some]
      have F := And.intro hx <| q1
      repeat refine st ?_
      exact aR
    · obtain ⟨k, s, rfl, hsk, _⟩ := at_in hz
      have hk := (List.getElem?_eq_some_iff.1 hsk).1
      have h0 : (((k : Nat) : Int) == -1) = false := by simp
      have q3 : ((k : Nat) : Int) < (c.states.length : Int) := by omega
      have hdp : domP c t.target (k : Int) = (plainZ c (k : Int) && aboveB c (k : Int) t.target) := by unfold domP; rw [decide_eq_false (by omega), Bool.false_or]
      have hpl := plain_at hsk
      have f3 := rAbove27_con env c hc k t.target
      unfold chAV at f3
      cases hk1 : (s.kind == 1) with
      | false =>
        rw [hdp, hpl, hk1, Bool.false_and] at hf
        simp only [Bool.false_eq_true, if_false] at hf
        have F := And.intro trAV.eq_1 <| And.intro chAV.eq_1 <| And.intro stAV.eq_1 <| And.intro hx <| And.intro hsk <| And.intro q1 <| And.intro q2 <| And.intro q3 <| And.intro h0 <| hk1
        repeat (first | refine st ?_ | refine cC f3 ?_)
        refine ⟨j + 1, ⟨hlt, hf⟩, ?_, ?_, by omega⟩
        · (simp only [go_sem, F])
        · have F := And.intro trAV.eq_1 <| chAV.eq_1
          (simp only [go_sem, F])
      | true =>
        rw [hdp, hpl, hk1, Bool.true_and] at hf
        cases hab : aboveB c (k : Int) t.target with
        | false =>
          rw [hab] at hf f3
          simp only [Bool.false_eq_true, if_false] at hf
          have F := And.intro trAV.eq_1 <| And.intro chAV.eq_1 <| And.intro stAV.eq_1 <| And.intro hx <| And.intro hsk <| And.intro q1 <| And.intro q2 <| And.intro q3 <| And.intro h0 <| hk1
          repeat (first | refine st ?_ | refine cC f3 ?_)
          refine ⟨j + 1, ⟨hlt, hf⟩, ?_, ?_, by omega⟩
          · (simp only [go_sem, F])
          · have F := And.intro trAV.eq_1 <| chAV.eq_1
            (simp only [go_sem, F])
        | true =>
          rw [hab] at hf f3
          simp only [if_true] at hf
          rw [hf, Option.getD_some]
          have F := And.intro trAV.eq_1 <| And.intro chAV.eq_1 <| And.intro stAV.eq_1 <| And.intro hx <| And.intro hsk <| And.intro q1 <| And.intro q2 <| And.intro q3 <| And.intro h0 <| hk1
          repeat (first | refine st ?_ | refine cC f3 ?_)
          exact aR
  · obtain rfl : j = U.length := by omega
    have q1 : ¬ (U.length : Int) < (U.length : Int) := by omega
    rw [List.drop_length] at hf
    rw [hf]
    simp only [List.find?_nil, Option.getD_none]
    have F := q1
    repeat refine st ?_
    exact aR
end Go.Proofs.YtlmekdfleciejaaGreatDoor
namespace Go.Proofs
def Tryz.revI_ren : Go.Shelf.Ren := ⟨fun | 112 => 174 | n => n, fun | 28 => 35 | 3 => 3 | 4 => 4 | 0 => 0 | n => n, fun | n => n⟩
theorem Tryz.revI : Go.Proofs.Lays.n112 Tryz.prog Tryz.revI_ren := {
  mixed := by kernel_rfl
  f112 := Tryz.func174.trans (congrArg some (by kernel_rfl))
  t0 := Tryz.underlying0
  a0 := Tryz.isAgg0
  z0 := Tryz.sizeOf0
  v0 := Tryz.zeroValue0
  t3 := Tryz.underlying3
  a3 := Tryz.isAgg3
  z3 := Tryz.sizeOf3
  v3 := Tryz.zeroValue3
  t4 := Tryz.underlying4
  a4 := Tryz.isAgg4
  z4 := Tryz.sizeOf4
  v4 := Tryz.zeroValue4
  t28 := Tryz.underlying35
  a28 := Tryz.isAgg35
  z28 := Tryz.sizeOf35
  v28 := Tryz.zeroValue35 }
def Tryz.compI_ren : Go.Shelf.Ren := ⟨fun | 20 => 108 | n => n, fun | 22 => 35 | 3 => 3 | 4 => 4 | 0 => 0 | n => n, fun | n => n⟩
theorem Tryz.compI : Go.Proofs.Lays2.n20 Tryz.prog Tryz.compI_ren := {
  mixed := by kernel_rfl
  f20 := Tryz.func108.trans (congrArg some (by kernel_rfl))
  t0 := Tryz.underlying0
  a0 := Tryz.isAgg0
  z0 := Tryz.sizeOf0
  v0 := Tryz.zeroValue0
  t3 := Tryz.underlying3
  a3 := Tryz.isAgg3
  z3 := Tryz.sizeOf3
  v3 := Tryz.zeroValue3
  t4 := Tryz.underlying4
  a4 := Tryz.isAgg4
  z4 := Tryz.sizeOf4
  v4 := Tryz.zeroValue4
  t22 := Tryz.underlying35
  a22 := Tryz.isAgg35
  z22 := Tryz.sizeOf35
  v22 := Tryz.zeroValue35
  i3 := by kernel_rfl }
end Go.Proofs
namespace Go.Proofs.YtlmekdfleciejaaGreatDoor
open Go.RowKit Go.Sort Go.Shelf Go.Lib
theorem Tryz.revIEnter : ∀ (args : Array Value) (w : World), (callFunc 174 args).run Tryz.prog w = .ok (.enter 174 args) w := enters_of Tryz.func174 (by kernel_rfl) rfl
theorem Tryz.compIEnter : ∀ (args : Array Value) (w : World), (callFunc 108 args).run Tryz.prog w = .ok (.enter 108 args) w := enters_of Tryz.func108 (by kernel_rfl) rfl
theorem revI_turns (l : List Int) (hl : l.length ≤ 9223372036854775807) : Turns Tryz.prog 174 [] 3 1 (l.map intC) (l.reverse.map intC) := by
  by_cases h0 : l = []
  · subst h0
    exact turns_none Tryz.revIEnter fun p cap w => Any.slices_Reverse_int_empty Tryz.revI p cap w
  · refine turns_base (by rw [List.length_map]; exact List.length_pos_iff.2 h0) Tryz.revIEnter (by simp) (fun x hx => ?_) (fun x hx => ?_) fun w g cap hH hg => ?_
    · obtain ⟨y, _, rfl⟩ := List.mem_map.1 hx; rfl
    · obtain ⟨y, _, rfl⟩ := List.mem_map.1 hx
      exact ⟨rfl, fun u hu => by rw [List.mem_singleton.1 hu]; rfl⟩
    · have hH : Holds id w g 0 (l.map (Value.int .i64)).toArray := by rw [← flat_one]; exact hH
      have := Any.slices_Reverse_int Tryz.revI g 0 cap l w (holds_mapI hH) hl
      rw [List.length_map]
      refine (show Calls Tryz.prog 174 #[.slice (some ⟨g, 0, none⟩) l.length cap] w _ from this).mono ?_
      rintro ex w' ⟨rfl, n, rfl⟩
      refine ⟨rfl, n, #[], ?_⟩
      have hgr : ∀ W : World, grow W #[] = W := fun W => by simp [grow]
      rw [hgr, putRow_id, show (l.reverse.map intC).flatten = l.reverse.map (Value.int .i64) from flat_one (Value.int .i64) _]
      simp
theorem compI_cuts (l : List Int) (hl : l.length ≤ 9223372036854775807) : Cuts Tryz.prog 108 3 1 (l.map intC) ((Lib.compact l).map intC) := by
  refine ⟨Tryz.compIEnter, fun x hx => ?_, fun w base v ho => ?_⟩
  · obtain ⟨y, _, rfl⟩ := List.mem_map.1 hx
    exact ⟨rfl, fun u hu => by rw [List.mem_singleton.1 hu]; rfl⟩
  rw [show (l.map intC).flatten = l.map (Value.int .i64) from flat_one (Value.int .i64) _, List.length_map] at ho
  rw [show ((Lib.compact l).map intC).flatten = (Lib.compact l).map (Value.int .i64) from flat_one (Value.int .i64) _, List.length_map]
  by_cases h0 : l = []
  · subst h0
    obtain ⟨p, cap, rfl⟩ : ∃ p cap, v = .slice p 0 cap := by
      rcases ho.2 with ⟨rfl, _⟩ | ⟨g, cap, cur, rfl, _⟩
      · exact ⟨_, _, rfl⟩
      · exact ⟨_, _, rfl⟩
    refine (show Calls Tryz.prog 108 #[.slice p 0 cap] w _ from Any.slices_Compact_int_empty Tryz.compI p cap w).mono ?_
    rintro ex w' ⟨rfl, rfl⟩
    exact ⟨_, rfl, rfl, ⟨rfl, rfl, rfl, Nat.le_refl _, fun _ _ _ => rfl⟩, fun _ h => h, ho⟩
  · rcases ho.2 with ⟨_, h⟩ | ⟨g, cap, cur, rfl, hbase, hb, h1, h2, h3, h4⟩
    · exact absurd (List.eq_nil_of_length_eq_zero h) h0
    have hg : g < w.heap.size := (Array.getElem?_eq_some_iff.1 hb).1
    have hH : Holds (Value.int .i64) w g 0 l.toArray := fun j hj => by
      have hj' : j < l.length := by simpa using hj
      have e1 : (cur.toList.take (l.length * 1))[j]? = (l.map (Value.int .i64))[j]? := by rw [h4]
      rw [List.getElem?_take_of_lt (by omega), List.getElem?_map, List.getElem?_eq_getElem hj'] at e1
      refine ⟨?_, by simp [World.frozen?, hb]⟩
      simp only [World.cell?, hb, Nat.zero_add, Option.isSome_none, Bool.false_eq_true, if_false]
      rw [← Array.getElem?_toList, e1, getElem!_pos _ j hj]
      rfl
    have hcl : (Lib.compact l).length ≤ l.length := by
      unfold Lib.compact Lib.compactUpTo
      rw [List.length_map]
      exact Nat.le_trans (List.length_filter_le ..) (by simp)
    refine (show Calls Tryz.prog 108 #[.slice (some ⟨g, 0, none⟩) l.length cap] w _ from Any.slices_Compact_int Tryz.compI g 0 cap l w hH hl h1).mono ?_
    rintro ex w' ⟨rfl, q, rfl⟩
    rw [putRow_id]
    generalize hF : ((Lib.compact l ++ List.replicate (l.length - (Lib.compact l).length) 0).toArray.map (Value.int .i64)) = F
    have hFs : F.size = l.length := by rw [← hF]; simp; omega
    have hgr : ∀ W : World, grow W #[] = W := fun W => by simp [grow]
    have e2 := heap_put (n := q) (os := #[]) F hb
    have e3 := grownBy_put (w := w) (g := g) (n := q) (os := #[]) F
    rw [hgr] at e2 e3
    refine ⟨_, rfl, rfl, e3, fun _ h => h, ⟨by rw [List.length_map, Nat.mul_one], .inr ⟨g, cap, _, rfl, hbase, e2, Nat.le_trans hcl h1, h2, by simp [putCells, h3], ?_⟩⟩⟩
    have ht := take_put cur F (by rw [hFs, h3]; omega)
    rw [Nat.mul_one]
    have : ((putCells id 0 F cur).toList.take (Lib.compact l).length) = (F.toList).take (Lib.compact l).length := by
      rw [← ht, List.take_take, Nat.min_eq_left (by omega)]
    rw [this, ← hF]
    simp
end Go.Proofs.YtlmekdfleciejaaGreatDoor
