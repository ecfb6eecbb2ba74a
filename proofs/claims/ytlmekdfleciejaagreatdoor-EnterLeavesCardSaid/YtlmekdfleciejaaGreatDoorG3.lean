/- The document's words on legal states. -/
import Derived.Test.YtlmekdfleciejaaGreatDoorG1
import Derived.Test.YtlmekdfleciejaaGreatDoorG2
import Derived.Test.YtlmekdfleciejaaGreatDoorM8
set_option linter.unusedSimpArgs false
namespace Go.Proofs.YtlmekdfleciejaaGreatDoor
open Go.RowKit
set_option maxRecDepth 100000
set_option maxHeartbeats 8000000
theorem flags_con (env : Env) (c : ChD) (hc : c.states.length ≤ 4000) (act : List Int) (hl : act.length ≤ 1000000) : Con Tryz.prog env 170 [tabAV c, .seq 1 (act.map intAV)] (.own 4 1 (flagA c.states.length act)) := by
  have f0 := tabTree_con env c
  have f1 := tlen_con env c
  have hz := flag_zero c.states.length
  have m1 : ¬ (16777216 : Int) < (c.states.length : Int) := by omega
  have m2 : ¬ (281474976710656 : Int) < 1 * (c.states.length : Int) := by omega
  have m3 : ¬ (c.states.length : Int) < 0 := by omega
  have m4 : ¬ (281474976710656 : Int) < (c.states.length : Int) := by omega
  unfold treeAV at f0 f1
  unfold tabAV at f0 ⊢
  refine con_of_body Tryz.func170 rfl Tryz.call170 (by rw [Tryz.ntmps170]; simp) ?_
  rw [Tryz.ntmps170, Tryz.results170]
  have F := And.intro m1 <| And.intro m2 <| And.intro m3 <| m4
  repeat (first | refine st ?_ | refine cC f0 ?_ | refine cC f1 ?_)
  refine awp_loopH (D := Nat) (fun j vs => [(5, .row 11 (vs 11)), (12, .seq 1 (act.map intAV)), (13, I act.length), (14, I j)]) (fun j _ => [(11, ⟨1, flagA c.states.length (act.take j), 4, true⟩)]) (fun j _ esc => j ≤ act.length ∧ esc 11 = false) (fun j => act.length - j) 0 ?_ ?_ ?_ ?_
  · exact ⟨Nat.zero_le _, rfl⟩
  · (simp only [go_sem, F])
  · have F := hz
    (simp only [go_sem, F])
  rintro j ws esc ⟨hj, e0⟩
  by_cases hlt : j < act.length
  · obtain ⟨x, hx⟩ : ∃ x, act[j]? = some x := ⟨act[j], List.getElem?_eq_getElem hlt⟩
    have q1 := nlt hlt
    have q2 := wrap_succ hlt (by omega)
    have ht : act.take (j + 1) = act.take j ++ [x] := by rw [List.take_add_one, hx]; rfl
    have hfl := flag_len c.states.length (act.take j)
    by_cases h0 : 0 ≤ x
    · obtain ⟨k, rfl⟩ := nat_of h0
      by_cases h1 : k < c.states.length
      · have q3 := nlt h1
        have hs := flag_set (act := act.take j) h1
        have hat := flag_at (act := act.take j) h1
        rw [← ht] at hs
        have F := And.intro hx <| And.intro q1 <| And.intro q2 <| And.intro q3 <| And.intro hat <| And.intro hs <| And.intro hfl <| e0
        repeat refine st ?_
        refine ⟨j + 1, ⟨hlt, by simp only [go_sem, e0]⟩, ?_, ?_, by omega⟩
        · (simp only [go_sem, F])
        · (simp only [go_sem, F])
      · have q3 : ¬ (k : Int) < (c.states.length : Int) := by omega
        have hs := flag_out (n := c.states.length) (act := act.take j) (i := (k : Int)) (fun m hm => by omega)
        rw [← ht] at hs
        have F := And.intro hx <| And.intro q1 <| And.intro q2 <| And.intro q3 <| And.intro hfl <| e0
        repeat refine st ?_
        refine ⟨j + 1, ⟨hlt, by simp only [go_sem, e0]⟩, ?_, ?_, by omega⟩
        · (simp only [go_sem, F])
        · have F := hs
          (simp only [go_sem, F])
    · have hs := flag_out (n := c.states.length) (act := act.take j) (i := x) (fun m hm => by omega)
      rw [← ht] at hs
      have F := And.intro hx <| And.intro q1 <| And.intro q2 <| And.intro h0 <| And.intro hfl <| e0
      repeat refine st ?_
      refine ⟨j + 1, ⟨hlt, by simp only [go_sem, e0]⟩, ?_, ?_, by omega⟩
      · (simp only [go_sem, F])
      · have F := hs
        (simp only [go_sem, F])
  · obtain rfl : j = act.length := by omega
    have q1 : ¬ (act.length : Int) < (act.length : Int) := by omega
    have hta : act.take act.length = act := List.take_length
    have F := And.intro q1 <| And.intro hta <| e0
    repeat refine st ?_
    exact aR
theorem many_con (env : Env) (n : Nat) (act : List Int) (ks : List Nat) (_hn : n ≤ 4000) (hl : ks.length ≤ 4000) (hk : ∀ k ∈ ks, k < n) : Con Tryz.prog env 173 [.seq 1 (flagA n act), .seq 1 (ks.map natAV)] (I (manyI act ks : Nat)) := by
  have hfl := flag_len n act
  have z0 : manyI act [] = 0 := rfl
  refine con_of_body Tryz.func173 rfl Tryz.call173 (by rw [Tryz.ntmps173]; simp) ?_
  rw [Tryz.ntmps173, Tryz.results173]
  repeat refine st0 ?_
  refine awp_loopH (D := Nat) (fun j _ => [(0, .seq 1 (flagA n act)), (5, I (manyI act (ks.take j) : Nat)), (8, .seq 1 (ks.map natAV)), (9, I ks.length), (10, I j)]) (fun _ _ => []) (fun j _ _ => j ≤ ks.length) (fun j => ks.length - j) 0 ?_ ?_ ?_ ?_
  · exact Nat.zero_le _
  · have F := z0
    (simp only [go_sem, F])
  · (simp only [go_sem, z0])
  rintro j ws esc hj
  by_cases hlt : j < ks.length
  · obtain ⟨k, hk2⟩ : ∃ k, ks[j]? = some k := ⟨ks[j], List.getElem?_eq_getElem hlt⟩
    have hkn := hk k (List.mem_of_getElem? hk2)
    have q1 := nlt hlt
    have q2 := wrap_succ hlt (by omega)
    have q3 := nlt hkn
    have hat := flag_at (act := act) hkn
    have hm := many_to (act := act) hk2
    have hle := many_le act (ks.take j)
    rw [List.length_take] at hle
    have q4 := wrap_succ (show manyI act (ks.take j) < ks.length by omega) (by omega)
    cases hb : act.contains (k : Int) with
    | true =>
      rw [hb] at hat hm
      rw [if_pos rfl] at hm
      have F := And.intro natAV.eq_1 <| And.intro hk2 <| And.intro q1 <| And.intro q2 <| And.intro q3 <| And.intro q4 <| And.intro hat <| hfl
      repeat refine st ?_
      refine ⟨j + 1, hlt, ?_, ?_, by omega⟩
      · have F := hm
        (simp only [go_sem, F])
      · (simp only [go_sem, hm])
    | false =>
      rw [hb] at hat hm
      rw [if_neg Bool.false_ne_true, Nat.add_zero] at hm
      have F := And.intro natAV.eq_1 <| And.intro hk2 <| And.intro q1 <| And.intro q2 <| And.intro q3 <| And.intro hat <| hfl
      repeat refine st ?_
      refine ⟨j + 1, hlt, ?_, ?_, by omega⟩
      · have F := hm
        (simp only [go_sem, F])
      · (simp only [go_sem, hm])
  · obtain rfl : j = ks.length := by omega
    have q1 : ¬ (ks.length : Int) < (ks.length : Int) := by omega
    have hta : ks.take ks.length = ks := List.take_length
    have F := And.intro q1 <| hta
    repeat refine st ?_
    exact aR
theorem par_bound {c : ChD} (h : Right c) {k : Nat} {s : StD} (hs : c.states[k]? = some s) (act : List Int) : (s.parent < 0 ∧ decide (s.parent < 0) = true) ∨ (¬ s.parent < 0 ∧ decide (s.parent < 0) = false ∧ 0 ≤ s.parent ∧ s.parent < (c.states.length : Int) ∧ (flagA c.states.length act)[s.parent.toNat]? = some [B (act.contains s.parent)]) := by
  have hi := (List.getElem?_eq_some_iff.1 hs).1
  have h2 := (h.par k s hs).2
  by_cases e : s.parent < 0
  · exact .inl ⟨e, decide_eq_true e⟩
  · refine .inr ⟨e, decide_eq_false e, by omega, by omega, ?_⟩
    rw [flag_at (by omega)]
    rw [show ((s.parent.toNat : Nat) : Int) = s.parent by omega]
theorem fits_con (env : Env) (c : ChD) (h : Full c) (act : List Int) (k : Nat) (s : StD) (hs : c.states[k]? = some s) : Con Tryz.prog env 171 [.agg (chAV c), tabAV c, .seq 1 (flagA c.states.length act), I k] (B (fitB c act k s)) := by
  have hlen := h.few
  have hi := (List.getElem?_eq_some_iff.1 hs).1
  have q0 : ((k : Nat) : Int) < (c.states.length : Int) := by omega
  have f0 := tabReal_con env c h k
  rw [if_pos (.inr (inZ_nat.2 hi))] at f0
  have hK := kids_few h.toRight k true
  have hKm : ∀ j ∈ kidsL c k true, j < c.states.length := fun j hj => by have := kid_gt h.toRight (kid_real hj).1; omega
  have f1 := many_con env c.states.length act (kidsL c k true) (by omega) (by omega) hKm
  have hfl := flag_len c.states.length act
  have hp := par_bound h.toRight hs act
  have hF : fitB c act k s = (!memyB s && (decide (s.parent < 0) || act.contains s.parent) && (if s.kind = 1 ∧ kidsL c k true ≠ [] then manyI act (kidsL c k true) == 1 else if s.kind = 2 then manyI act (kidsL c k true) == (kidsL c k true).length else true)) := rfl
  rw [hF]
  try clear hF
  generalize kidsL c k true = K at *
  unfold tabAV at f0 ⊢
  by_cases e4 : s.kind = 4
  · have b4 : (s.kind == 4) = true := by simpa using e4
    have hm : memyB s = true := by unfold memyB; rw [b4]; rfl
    rw [hm]
    refine con_of_body Tryz.func171 rfl Tryz.call171 (by rw [Tryz.ntmps171]; simp) ?_
    rw [Tryz.ntmps171, Tryz.results171]
    have F := And.intro chAV.eq_1 <| And.intro stAV.eq_1 <| And.intro hs <| And.intro q0 <| b4
    repeat (first | refine st ?_ | refine cC f0 ?_)
    exact aR
  have b4 : (s.kind == 4) = false := by simpa using e4
  by_cases e5 : s.kind = 5
  · have b5 : (s.kind == 5) = true := by simpa using e5
    have hm : memyB s = true := by unfold memyB; rw [b5, Bool.or_true]
    rw [hm]
    refine con_of_body Tryz.func171 rfl Tryz.call171 (by rw [Tryz.ntmps171]; simp) ?_
    rw [Tryz.ntmps171, Tryz.results171]
    have F := And.intro chAV.eq_1 <| And.intro stAV.eq_1 <| And.intro hs <| And.intro q0 <| And.intro b4 <| b5
    repeat (first | refine st ?_ | refine cC f0 ?_)
    exact aR
  have b5 : (s.kind == 5) = false := by simpa using e5
  have hm : memyB s = false := by unfold memyB; rw [b4, b5]; rfl
  rw [hm]
  by_cases e1 : s.kind = 1
  · have b1 : (s.kind == 1) = true := by simpa using e1
    by_cases hk0 : K = []
    · rw [if_neg (by simp [hk0]), if_neg (by omega)]
      have q1 : ¬ (0 : Int) < (K.length : Int) := by rw [hk0]; simp
      rcases hp with ⟨g0, g1⟩ | ⟨g0, g1, g2, g3, g4⟩
      · refine con_of_body Tryz.func171 rfl Tryz.call171 (by rw [Tryz.ntmps171]; simp) ?_
        rw [Tryz.ntmps171, Tryz.results171]
        have F := And.intro chAV.eq_1 <| And.intro stAV.eq_1 <| And.intro hs <| And.intro q0 <| And.intro b4 <| And.intro b5 <| And.intro b1 <| And.intro q1 <| And.intro g0 <| g1
        repeat (first | refine st ?_ | refine cC f0 ?_)
        exact aR
      · refine con_of_body Tryz.func171 rfl Tryz.call171 (by rw [Tryz.ntmps171]; simp) ?_
        rw [Tryz.ntmps171, Tryz.results171]
        have F := And.intro chAV.eq_1 <| And.intro stAV.eq_1 <| And.intro hs <| And.intro q0 <| And.intro b4 <| And.intro b5 <| And.intro b1 <| And.intro q1 <| And.intro g0 <| And.intro g1 <| And.intro g2 <| And.intro g3 <| And.intro g4 <| hfl
        repeat (first | refine st ?_ | refine cC f0 ?_)
        exact aR
    · rw [if_pos ⟨e1, hk0⟩]
      have q1 : (0 : Int) < (K.length : Int) := by have := List.length_pos_iff.2 hk0; omega
      by_cases hm1 : manyI act K = 1
      · have hmi : ((manyI act K : Nat) : Int) = 1 := by omega
        rw [hm1]
        rcases hp with ⟨g0, g1⟩ | ⟨g0, g1, g2, g3, g4⟩
        · refine con_of_body Tryz.func171 rfl Tryz.call171 (by rw [Tryz.ntmps171]; simp) ?_
          rw [Tryz.ntmps171, Tryz.results171]
          have F := And.intro chAV.eq_1 <| And.intro stAV.eq_1 <| And.intro hs <| And.intro q0 <| And.intro b4 <| And.intro b5 <| And.intro b1 <| And.intro q1 <| And.intro hmi <| And.intro g0 <| g1
          repeat (first | refine st ?_ | refine cC f0 ?_ | refine cC f1 ?_)
          exact aR
        · refine con_of_body Tryz.func171 rfl Tryz.call171 (by rw [Tryz.ntmps171]; simp) ?_
          rw [Tryz.ntmps171, Tryz.results171]
          have F := And.intro chAV.eq_1 <| And.intro stAV.eq_1 <| And.intro hs <| And.intro q0 <| And.intro b4 <| And.intro b5 <| And.intro b1 <| And.intro q1 <| And.intro hmi <| And.intro g0 <| And.intro g1 <| And.intro g2 <| And.intro g3 <| And.intro g4 <| hfl
          repeat (first | refine st ?_ | refine cC f0 ?_ | refine cC f1 ?_)
          exact aR
      · have hmi : (((manyI act K : Nat) : Int) != 1) = true := by simp; omega
        have hmb : (manyI act K == 1) = false := by simpa using hm1
        rw [hmb]
        refine con_of_body Tryz.func171 rfl Tryz.call171 (by rw [Tryz.ntmps171]; simp) ?_
        rw [Tryz.ntmps171, Tryz.results171]
        have F := And.intro chAV.eq_1 <| And.intro stAV.eq_1 <| And.intro hs <| And.intro q0 <| And.intro b4 <| And.intro b5 <| And.intro b1 <| And.intro q1 <| hmi
        repeat (first | refine st ?_ | refine cC f0 ?_ | refine cC f1 ?_)
        exact aR
  have b1 : (s.kind == 1) = false := by simpa using e1
  rw [if_neg (fun e => e1 e.1)]
  by_cases e2 : s.kind = 2
  · have b2 : (s.kind == 2) = true := by simpa using e2
    rw [if_pos e2]
    by_cases hm1 : manyI act K = K.length
    · have hmi : (((manyI act K : Nat) : Int) != (K.length : Int)) = false := by simp; omega
      rw [hm1]
      rcases hp with ⟨g0, g1⟩ | ⟨g0, g1, g2, g3, g4⟩
      · refine con_of_body Tryz.func171 rfl Tryz.call171 (by rw [Tryz.ntmps171]; simp) ?_
        rw [Tryz.ntmps171, Tryz.results171]
        have F := And.intro chAV.eq_1 <| And.intro stAV.eq_1 <| And.intro hs <| And.intro q0 <| And.intro b4 <| And.intro b5 <| And.intro b1 <| And.intro b2 <| And.intro hmi <| And.intro g0 <| g1
        repeat (first | refine st ?_ | refine cC f0 ?_ | refine cC f1 ?_)
        exact aR
      · refine con_of_body Tryz.func171 rfl Tryz.call171 (by rw [Tryz.ntmps171]; simp) ?_
        rw [Tryz.ntmps171, Tryz.results171]
        have F := And.intro chAV.eq_1 <| And.intro stAV.eq_1 <| And.intro hs <| And.intro q0 <| And.intro b4 <| And.intro b5 <| And.intro b1 <| And.intro b2 <| And.intro hmi <| And.intro g0 <| And.intro g1 <| And.intro g2 <| And.intro g3 <| And.intro g4 <| hfl
        repeat (first | refine st ?_ | refine cC f0 ?_ | refine cC f1 ?_)
        exact aR
    · have hmi : (((manyI act K : Nat) : Int) != (K.length : Int)) = true := by simp; omega
      have hmb : (manyI act K == K.length) = false := by simpa using hm1
      rw [hmb]
      refine con_of_body Tryz.func171 rfl Tryz.call171 (by rw [Tryz.ntmps171]; simp) ?_
      rw [Tryz.ntmps171, Tryz.results171]
      have F := And.intro chAV.eq_1 <| And.intro stAV.eq_1 <| And.intro hs <| And.intro q0 <| And.intro b4 <| And.intro b5 <| And.intro b1 <| And.intro b2 <| hmi
      repeat (first | refine st ?_ | refine cC f0 ?_ | refine cC f1 ?_)
      exact aR
  · have b2 : (s.kind == 2) = false := by simpa using e2
    rw [if_neg e2]
    rcases hp with ⟨g0, g1⟩ | ⟨g0, g1, g2, g3, g4⟩
    · refine con_of_body Tryz.func171 rfl Tryz.call171 (by rw [Tryz.ntmps171]; simp) ?_
      rw [Tryz.ntmps171, Tryz.results171]
      have F := And.intro chAV.eq_1 <| And.intro stAV.eq_1 <| And.intro hs <| And.intro q0 <| And.intro b4 <| And.intro b5 <| And.intro b1 <| And.intro b2 <| And.intro g0 <| g1
      repeat (first | refine st ?_ | refine cC f0 ?_)
      exact aR
    · refine con_of_body Tryz.func171 rfl Tryz.call171 (by rw [Tryz.ntmps171]; simp) ?_
      rw [Tryz.ntmps171, Tryz.results171]
      have F := And.intro chAV.eq_1 <| And.intro stAV.eq_1 <| And.intro hs <| And.intro q0 <| And.intro b4 <| And.intro b5 <| And.intro b1 <| And.intro b2 <| And.intro g0 <| And.intro g1 <| And.intro g2 <| And.intro g3 <| And.intro g4 <| hfl
      repeat (first | refine st ?_ | refine cC f0 ?_)
      exact aR
theorem bad29_con (env : Env) (a1 a8 : Addr) (he : ChEnv env a1 a8) (p : Int) (hp : -1 ≤ p) : Con Tryz.prog env 172 [I p] (errV p (sentV a1)) := by
  have g1 := gt_at he.e1
  have f0 := fAt_con env [108, 101, 103, 97, 108, 46, 67, 104, 101, 99, 107] p a1 hp
  refine con_of_body Tryz.func172 rfl Tryz.call172 (by rw [Tryz.ntmps172]; simp) ?_
  rw [Tryz.ntmps172, Tryz.results172]
  have F := g1
  repeat (first | refine st ?_ | refine cC f0 ?_)
  exact aR
def chkE (a1 : Addr) (c : ChD) (act : List Int) : AV := if lgB c act = true then nilE else errV (lgChk c act).2 (sentV a1)
theorem chkE_bad {a1 : Addr} {c : ChD} {act : List Int} {p : Int} (h : lgChk c act = (1, p)) : chkE a1 c act = errV p (sentV a1) := by
  unfold chkE lgB
  rw [h]
  rfl
theorem chkE_ok {a1 : Addr} {c : ChD} {act : List Int} {p : Int} (h : lgChk c act = (0, p)) : chkE a1 c act = nilE := by
  unfold chkE lgB
  rw [h]
  rfl
theorem lgAt_is {c : ChD} {act : List Int} {j : Nat} {x : Int} (hx : act[j]? = some x) : lgAt c act j = ((j == 0 || decide (act.getD (j - 1) 0 < x)) && fitI c act x) := by unfold lgAt; rw [hx]
theorem fitI_nat {c : ChD} {act : List Int} {k : Nat} {s : StD} (hs : c.states[k]? = some s) : fitI c act (k : Int) = fitB c act k s := by
  unfold fitI
  rw [at_nat, hs]
  rfl
theorem fitI_out {c : ChD} {act : List Int} {x : Int} (hz : inZ c x = false) : fitI c act x = false := by
  unfold fitI at_
  unfold inZ at hz
  by_cases h0 : 0 ≤ x
  · rw [if_pos h0]
    rw [decide_eq_true h0, Bool.true_and, decide_eq_false_iff_not] at hz
    rw [List.getElem?_eq_none (by omega)]
  · rw [if_neg h0]
end Go.Proofs.YtlmekdfleciejaaGreatDoor
set_option linter.unusedSimpArgs false
namespace Go.Proofs.YtlmekdfleciejaaGreatDoor
open Go.RowKit
set_option maxRecDepth 100000
set_option maxHeartbeats 8000000
theorem prev_at {act : List Int} {j : Nat} (h0 : 0 < j) (hj : j < act.length) : act[j - 1]? = some (act.getD (j - 1) 0) := by
  rw [List.getD_eq_getElem?_getD, List.getElem?_eq_getElem (show j - 1 < act.length by omega)]
  rfl
theorem litEs_int (l : List Int) : litEs (l.map intC) = l.map intAV := by
  unfold litEs
  rw [List.map_map]
  rfl
end Go.Proofs.YtlmekdfleciejaaGreatDoor
set_option linter.unusedSimpArgs false
namespace Go.Proofs.YtlmekdfleciejaaGreatDoor
open Go.RowKit
set_option maxRecDepth 100000
set_option maxHeartbeats 8000000
theorem cont_more {act : List Int} {j : Nat} {x v : Int} (hx : act[j]? = some x) (hn : (act.take j).contains v = false) (he : x ≠ v) : (act.take (j + 1)).contains v = false := by
  rw [List.take_add_one, hx]
  simp at hn ⊢
  exact ⟨hn, fun q => he q.symm⟩
theorem rInI_con (env : Env) (act : List Int) (v : Int) (hl : act.length ≤ 1000000) : Con Tryz.prog env 52 [.seq 1 (act.map intAV), I v] (B (act.contains v)) := by
  refine con_of_body Tryz.func52 rfl Tryz.call52 (by rw [Tryz.ntmps52]; simp) ?_
  rw [Tryz.ntmps52, Tryz.results52]
  repeat refine st0 ?_
  refine awp_loopH (D := Nat) (fun j _ => [(0, .seq 1 (act.map intAV)), (1, I v), (5, I j)]) (fun _ _ => []) (fun j _ _ => j ≤ act.length ∧ (act.take j).contains v = false) (fun j => act.length - j) 0 ?_ ?_ ?_ ?_
  · exact ⟨Nat.zero_le _, rfl⟩
  · (simp only [go_sem])
  · (simp only [go_sem])
  rintro j ws esc ⟨hj, hno⟩
  by_cases hlt : j < act.length
  · obtain ⟨x, hx⟩ : ∃ x, act[j]? = some x := ⟨act[j], List.getElem?_eq_getElem hlt⟩
    have q1 := nlt hlt
    have q2 := wrap_succ hlt (by omega)
    by_cases e : x = v
    · have hr : act.contains v = true := by rw [List.contains_iff_mem, ← e]; exact List.mem_of_getElem? hx
      rw [hr]
      have q3 : (x == v) = true := by simpa using e
      have F := And.intro hx <| And.intro q1 <| q3
      repeat refine st ?_
      exact aR
    · have q3 : (x == v) = false := by simpa using e
      have F := And.intro hx <| And.intro q1 <| And.intro q2 <| q3
      repeat refine st ?_
      refine ⟨j + 1, ⟨hlt, cont_more hx hno e⟩, ?_, ?_, by omega⟩
      · (simp only [go_sem, F])
      · (simp only [go_sem, F])
  · obtain rfl : j = act.length := by omega
    have q1 : ¬ (act.length : Int) < (act.length : Int) := by omega
    rw [List.take_length] at hno
    rw [hno]
    have F := q1
    repeat refine st ?_
    exact aR
theorem rMany_con (env : Env) (act : List Int) (ks : List Nat) (hl : act.length ≤ 1000000) (hk : ks.length ≤ 4000) : Con Tryz.prog env 122 [.seq 1 (act.map intAV), .seq 1 (ks.map natAV)] (I (manyI act ks : Nat)) := by
  have z0 : manyI act [] = 0 := rfl
  refine con_of_body Tryz.func122 rfl Tryz.call122 (by rw [Tryz.ntmps122]; simp) ?_
  rw [Tryz.ntmps122, Tryz.results122]
  repeat refine st0 ?_
  refine awp_loopH (D := Nat) (fun j _ => [(0, .seq 1 (act.map intAV)), (1, .seq 1 (ks.map natAV)), (5, I (manyI act (ks.take j) : Nat)), (6, I j)]) (fun _ _ => []) (fun j _ _ => j ≤ ks.length) (fun j => ks.length - j) 0 ?_ ?_ ?_ ?_
  · exact Nat.zero_le _
  · have F := z0
    (simp only [go_sem, F])
  · (simp only [go_sem, z0])
  rintro j ws esc hj
  by_cases hlt : j < ks.length
  · obtain ⟨k, hk2⟩ : ∃ k, ks[j]? = some k := ⟨ks[j], List.getElem?_eq_getElem hlt⟩
    have q1 := nlt hlt
    have q2 := wrap_succ hlt (by omega)
    have f0 := rInI_con env act k hl
    have hm := many_to (act := act) hk2
    have hle := many_le act (ks.take j)
    rw [List.length_take] at hle
    have q4 := wrap_succ (show manyI act (ks.take j) < ks.length by omega) (by omega)
    cases hb : act.contains (k : Int) with
    | true =>
      rw [hb] at f0 hm
      rw [if_pos rfl] at hm
      have F := And.intro natAV.eq_1 <| And.intro hk2 <| And.intro q1 <| And.intro q2 <| q4
      repeat (first | refine st ?_ | refine cC f0 ?_)
      refine ⟨j + 1, hlt, ?_, ?_, by omega⟩
      · have F := hm
        (simp only [go_sem, F])
      · (simp only [go_sem, hm])
    | false =>
      rw [hb] at f0 hm
      rw [if_neg Bool.false_ne_true, Nat.add_zero] at hm
      have F := And.intro natAV.eq_1 <| And.intro hk2 <| And.intro q1 <| q2
      repeat (first | refine st ?_ | refine cC f0 ?_)
      refine ⟨j + 1, hlt, ?_, ?_, by omega⟩
      · have F := hm
        (simp only [go_sem, F])
      · (simp only [go_sem, hm])
  · obtain rfl : j = ks.length := by omega
    have q1 : ¬ (ks.length : Int) < (ks.length : Int) := by omega
    have hta : ks.take ks.length = ks := List.take_length
    have F := And.intro q1 <| hta
    repeat refine st ?_
    exact aR
theorem rFits29_con (env : Env) (c : ChD) (h : Full c) (act : List Int) (hl : act.length ≤ 1000000) (k : Nat) (s : StD) (hs : c.states[k]? = some s) : Con Tryz.prog env 121 [.agg (chAV c), .seq 1 (act.map intAV), I k] (B (fitB c act k s)) := by
  have hlen := h.few
  have hi := (List.getElem?_eq_some_iff.1 hs).1
  have q0 : ((k : Nat) : Int) < (c.states.length : Int) := by omega
  have f0 := rKids_con env c k true (by omega)
  have hK := kids_few h.toRight k true
  have f1 := rMany_con env act (kidsL c k true) hl (by omega)
  have f2 := rMemory_con env s
  have f3 := rInI_con env act s.parent hl
  have hF : fitB c act k s = (!memyB s && (decide (s.parent < 0) || act.contains s.parent) && (if s.kind = 1 ∧ kidsL c k true ≠ [] then manyI act (kidsL c k true) == 1 else if s.kind = 2 then manyI act (kidsL c k true) == (kidsL c k true).length else true)) := rfl
  rw [hF]
  try clear hF
  generalize kidsL c k true = K at *
  cases hm : memyB s with
  | true =>
    rw [hm] at f2
    refine con_of_body Tryz.func121 rfl Tryz.call121 (by rw [Tryz.ntmps121]; simp) ?_
    rw [Tryz.ntmps121, Tryz.results121]
    have F := And.intro chAV.eq_1 <| And.intro stAV.eq_1 <| And.intro hs <| q0
    repeat (first | refine st ?_ | refine cC f2 ?_)
    exact aR
  | false =>
    rw [hm] at f2
    by_cases hp : s.parent < 0
    · have g0 : ¬ 0 ≤ s.parent := by omega
      rw [decide_eq_true hp]
      by_cases e1 : s.kind = 1 ∧ K ≠ []
      · have b1 : (s.kind == 1) = true := by simpa using e1.1
        have q1 : (0 : Int) < (K.length : Int) := by have := List.length_pos_iff.2 e1.2; omega
        have q2 : (((manyI act K : Nat) : Int) == 1) = (manyI act K == 1) := by rw [Bool.eq_iff_iff, beq_iff_eq, beq_iff_eq]; omega
        rw [if_pos e1]
        refine con_of_body Tryz.func121 rfl Tryz.call121 (by rw [Tryz.ntmps121]; simp) ?_
        rw [Tryz.ntmps121, Tryz.results121]
        have F := And.intro chAV.eq_1 <| And.intro stAV.eq_1 <| And.intro hs <| And.intro q0 <| And.intro g0 <| And.intro b1 <| And.intro q1 <| q2
        repeat (first | refine st ?_ | refine cC f0 ?_ | refine cC f1 ?_ | refine cC f2 ?_)
        exact aR
      · rw [if_neg e1]
        have q2 : (((manyI act K : Nat) : Int) == (K.length : Int)) = (manyI act K == K.length) := by rw [Bool.eq_iff_iff, beq_iff_eq, beq_iff_eq]; omega
        by_cases e2 : s.kind = 2
        · have b1 : (s.kind == 1) = false := by simp [e2]
          have b2 : (s.kind != 2) = false := by simp [e2]
          rw [if_pos e2]
          refine con_of_body Tryz.func121 rfl Tryz.call121 (by rw [Tryz.ntmps121]; simp) ?_
          rw [Tryz.ntmps121, Tryz.results121]
          have F := And.intro chAV.eq_1 <| And.intro stAV.eq_1 <| And.intro hs <| And.intro q0 <| And.intro g0 <| And.intro b1 <| And.intro b2 <| q2
          repeat (first | refine st ?_ | refine cC f0 ?_ | refine cC f1 ?_ | refine cC f2 ?_)
          exact aR
        · have b2 : (s.kind != 2) = true := by simpa using e2
          rw [if_neg e2]
          by_cases e3 : s.kind = 1
          · have b1 : (s.kind == 1) = true := by simpa using e3
            have q1 : ¬ (0 : Int) < (K.length : Int) := by
              have : K = [] := Classical.byContradiction fun q => e1 ⟨e3, q⟩
              rw [this]; simp
            refine con_of_body Tryz.func121 rfl Tryz.call121 (by rw [Tryz.ntmps121]; simp) ?_
            rw [Tryz.ntmps121, Tryz.results121]
            have F := And.intro chAV.eq_1 <| And.intro stAV.eq_1 <| And.intro hs <| And.intro q0 <| And.intro g0 <| And.intro b1 <| And.intro b2 <| q1
            repeat (first | refine st ?_ | refine cC f0 ?_ | refine cC f1 ?_ | refine cC f2 ?_)
            exact aR
          · have b1 : (s.kind == 1) = false := by simpa using e3
            refine con_of_body Tryz.func121 rfl Tryz.call121 (by rw [Tryz.ntmps121]; simp) ?_
            rw [Tryz.ntmps121, Tryz.results121]
            have F := And.intro chAV.eq_1 <| And.intro stAV.eq_1 <| And.intro hs <| And.intro q0 <| And.intro g0 <| And.intro b1 <| b2
            repeat (first | refine st ?_ | refine cC f0 ?_ | refine cC f1 ?_ | refine cC f2 ?_)
            exact aR
    · have g0 : 0 ≤ s.parent := by omega
      rw [decide_eq_false hp]
      cases hin : act.contains s.parent with
      | false =>
        rw [hin] at f3
        refine con_of_body Tryz.func121 rfl Tryz.call121 (by rw [Tryz.ntmps121]; simp) ?_
        rw [Tryz.ntmps121, Tryz.results121]
        have F := And.intro chAV.eq_1 <| And.intro stAV.eq_1 <| And.intro hs <| And.intro q0 <| g0
        repeat (first | refine st ?_ | refine cC f0 ?_ | refine cC f1 ?_ | refine cC f2 ?_ | refine cC f3 ?_)
        exact aR
      | true =>
        rw [hin] at f3
        by_cases e1 : s.kind = 1 ∧ K ≠ []
        · have b1 : (s.kind == 1) = true := by simpa using e1.1
          have q1 : (0 : Int) < (K.length : Int) := by have := List.length_pos_iff.2 e1.2; omega
          have q2 : (((manyI act K : Nat) : Int) == 1) = (manyI act K == 1) := by rw [Bool.eq_iff_iff, beq_iff_eq, beq_iff_eq]; omega
          rw [if_pos e1]
          refine con_of_body Tryz.func121 rfl Tryz.call121 (by rw [Tryz.ntmps121]; simp) ?_
          rw [Tryz.ntmps121, Tryz.results121]
          have F := And.intro chAV.eq_1 <| And.intro stAV.eq_1 <| And.intro hs <| And.intro q0 <| And.intro g0 <| And.intro b1 <| And.intro q1 <| q2
          repeat (first | refine st ?_ | refine cC f0 ?_ | refine cC f1 ?_ | refine cC f2 ?_ | refine cC f3 ?_)
          exact aR
        · rw [if_neg e1]
          have q2 : (((manyI act K : Nat) : Int) == (K.length : Int)) = (manyI act K == K.length) := by rw [Bool.eq_iff_iff, beq_iff_eq, beq_iff_eq]; omega
          by_cases e2 : s.kind = 2
          · have b1 : (s.kind == 1) = false := by simp [e2]
            have b2 : (s.kind != 2) = false := by simp [e2]
            rw [if_pos e2]
            refine con_of_body Tryz.func121 rfl Tryz.call121 (by rw [Tryz.ntmps121]; simp) ?_
            rw [Tryz.ntmps121, Tryz.results121]
            have F := And.intro chAV.eq_1 <| And.intro stAV.eq_1 <| And.intro hs <| And.intro q0 <| And.intro g0 <| And.intro b1 <| And.intro b2 <| q2
            repeat (first | refine st ?_ | refine cC f0 ?_ | refine cC f1 ?_ | refine cC f2 ?_ | refine cC f3 ?_)
            exact aR
          · have b2 : (s.kind != 2) = true := by simpa using e2
            rw [if_neg e2]
            by_cases e3 : s.kind = 1
            · have b1 : (s.kind == 1) = true := by simpa using e3
              have q1 : ¬ (0 : Int) < (K.length : Int) := by
                have : K = [] := Classical.byContradiction fun q => e1 ⟨e3, q⟩
                rw [this]; simp
              refine con_of_body Tryz.func121 rfl Tryz.call121 (by rw [Tryz.ntmps121]; simp) ?_
              rw [Tryz.ntmps121, Tryz.results121]
              have F := And.intro chAV.eq_1 <| And.intro stAV.eq_1 <| And.intro hs <| And.intro q0 <| And.intro g0 <| And.intro b1 <| And.intro b2 <| q1
              repeat (first | refine st ?_ | refine cC f0 ?_ | refine cC f1 ?_ | refine cC f2 ?_ | refine cC f3 ?_)
              exact aR
            · have b1 : (s.kind == 1) = false := by simpa using e3
              refine con_of_body Tryz.func121 rfl Tryz.call121 (by rw [Tryz.ntmps121]; simp) ?_
              rw [Tryz.ntmps121, Tryz.results121]
              have F := And.intro chAV.eq_1 <| And.intro stAV.eq_1 <| And.intro hs <| And.intro q0 <| And.intro g0 <| And.intro b1 <| b2
              repeat (first | refine st ?_ | refine cC f0 ?_ | refine cC f1 ?_ | refine cC f2 ?_ | refine cC f3 ?_)
              exact aR
end Go.Proofs.YtlmekdfleciejaaGreatDoor
