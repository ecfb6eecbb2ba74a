/- The document's words on legal states. -/
import Derived.Test.YthffdneigmbgfaaGreatDoorG1
import Derived.Test.YthffdneigmbgfaaGreatDoorM37
import Derived.Test.YthffdneigmbgfaaGreatDoorM7
import Derived.Test.YthffdneigmbgfaaGreatDoorM33
set_option linter.unusedSimpArgs false
namespace Go.Proofs.YthffdneigmbgfaaGreatDoor
open Go.RowKit
set_option maxRecDepth 100000
set_option maxHeartbeats 8000000
theorem prev_at {act : List Int} {j : Nat} (h0 : 0 < j) (hj : j < act.length) : act[j - 1]? = some (act.getD (j - 1) 0) := by
  rw [List.getD_eq_getElem?_getD, List.getElem?_eq_getElem (show j - 1 < act.length by omega)]
  rfl
theorem check29_con (env : Env) (a1 a8 : Addr) (he : ChEnv env a1 a8) (c : ChD) (h : Full c) (hsm : Small c) (act : List Int) (hl : act.length ≤ 1000000) (hge : ∀ x ∈ act, -1 ≤ x) : Con Tryz.prog env 43 [tabAV c, .seq 1 (act.map intAV)] (chkE a1 c act) := by
  have hlen := h.few
  have f0 := tabChart_con env c hsm
  have f1 := flags_con env c (by omega) act hl
  have f2 := fun (k : Nat) (s : StD) (hs : c.states[k]? = some s) => fits_con env c h act k s hs
  have f3 := tabReal_con env c h (-1)
  rw [if_pos (.inl rfl)] at f3
  have hK := kids_few h.toRight (-1) true
  have hKm : ∀ j ∈ kidsL c (-1) true, j < c.states.length := fun j hj => by have := kid_gt h.toRight (kid_real hj).1; omega
  have f4 := many_con env c.states.length act (kidsL c (-1) true) (by omega) (by omega) hKm
  have fb := bad29_con env a1 a8 he (-1) (by omega)
  have hfl := flag_len c.states.length act
  unfold tabAV at f0 f1 f2 f3 ⊢
  refine con_of_body Tryz.func43 rfl Tryz.call43 (by rw [Tryz.ntmps43]; simp) ?_
  rw [Tryz.ntmps43, Tryz.results43]
  have F := chAV.eq_1
  repeat (first | refine st ?_ | refine cC f0 ?_ | refine cC f1 ?_)
  refine awp_loopH (D := Nat) (fun j vs => [(0, .ref 9 [tabCells c] 0 0), (1, .seq 1 (act.map intAV)), (5, .loc 5 (vs 5) 0 0), (6, .row 17 (vs 17)), (18, .seq 1 (act.map intAV)), (19, I act.length), (20, I j)]) (fun _ _ => [(5, ⟨5, [chAV c], 26, false⟩), (17, ⟨1, flagA c.states.length act, 4, true⟩)]) (fun j _ _ => j ≤ act.length ∧ ∀ m, m < j → lgAt c act m = true) (fun j => act.length - j) 0 ?_ ?_ ?_ ?_
  · exact ⟨Nat.zero_le _, fun m hm => absurd hm (by omega)⟩
  · (simp only [go_sem, F])
  · have F := chAV.eq_1
    (simp only [go_sem, F])
    try rfl
  rintro j ws esc ⟨hj, hall⟩
  by_cases hlt : j < act.length
  · obtain ⟨x, hx⟩ : ∃ x, act[j]? = some x := ⟨act[j], List.getElem?_eq_getElem hlt⟩
    have hx1 := hge x (List.mem_of_getElem? hx)
    have q1 := nlt hlt
    have q2 := wrap_succ hlt (by omega)
    have hat := lgAt_is (c := c) hx
    have fx := bad29_con env a1 a8 he x hx1
    have bad : lgAt c act j = false → chkE a1 c act = errV x (sentV a1) := fun hb => chkE_bad (lgChk_bad hx hall hb hx1)
    by_cases h0 : x < 0
    · rw [bad (by rw [hat, fitI_out (by unfold inZ; rw [decide_eq_false (by omega)]; rfl), Bool.and_false])]
      have F := And.intro hx <| And.intro q1 <| h0
      repeat (first | refine st ?_ | refine cC fx ?_)
      exact aR
    obtain ⟨k, rfl⟩ := nat_of (show 0 ≤ x by omega)
    by_cases h1 : (c.states.length : Int) ≤ k
    · rw [bad (by rw [hat, fitI_out (by unfold inZ; rw [decide_eq_false (p := (k : Int) < _) (by omega), Bool.and_false]), Bool.and_false])]
      have F := And.intro hx <| And.intro q1 <| And.intro h0 <| And.intro h1 <| hfl
      repeat (first | refine st ?_ | refine cC fx ?_)
      exact aR
    obtain ⟨s, hs⟩ : ∃ s, c.states[k]? = some s := ⟨c.states[k]'(by omega), List.getElem?_eq_getElem _⟩
    have f2 := f2 k s hs
    rw [fitI_nat hs] at hat
    by_cases hj0 : 0 < j
    · have q3 : (0 : Int) < (j : Int) := by omega
      have q4 : IntKind.i64.wrap ((j : Int) - 1) = ((j - 1 : Nat) : Int) := by rw [wrap_in (by omega) (by omega)]; omega
      have hy := prev_at hj0 hlt
      have q5 : ((j - 1 : Nat) : Int) < (act.length : Int) := by omega
      have b0 : (j == 0) = false := by simp; omega
      generalize act.getD (j - 1) 0 = y at *
      by_cases h2 : (k : Int) ≤ y
      · rw [bad (by rw [hat, b0, decide_eq_false (by omega)]; rfl)]
        have F := And.intro hx <| And.intro q1 <| And.intro h0 <| And.intro h1 <| And.intro hfl <| And.intro q3 <| And.intro q4 <| And.intro q5 <| And.intro hy <| h2
        repeat (first | refine st ?_ | refine cC fx ?_)
        exact aR
      cases hb : fitB c act k s with
      | false =>
        rw [hb] at f2 hat
        rw [bad (by rw [hat, Bool.and_false])]
        have F := And.intro chAV.eq_1 <| And.intro hx <| And.intro q1 <| And.intro h0 <| And.intro h1 <| And.intro hfl <| And.intro q3 <| And.intro q4 <| And.intro q5 <| And.intro hy <| h2
        repeat (first | refine st ?_ | refine cC f2 ?_ | refine cC fx ?_)
        exact aR
      | true =>
        rw [hb, b0, decide_eq_true (show y < (k : Int) by omega)] at hat
        rw [hb] at f2
        have F := And.intro chAV.eq_1 <| And.intro hx <| And.intro q1 <| And.intro q2 <| And.intro h0 <| And.intro h1 <| And.intro hfl <| And.intro q3 <| And.intro q4 <| And.intro q5 <| And.intro hy <| h2
        repeat (first | refine st ?_ | refine cC f2 ?_)
        refine ⟨j + 1, ⟨hlt, fun m hm => by rcases Nat.lt_succ_iff_lt_or_eq.1 hm with e | e; exact hall m e; rw [e]; exact hat⟩, ?_, ?_, by omega⟩
        · (simp only [go_sem, F])
        · have F := chAV.eq_1
          (simp only [go_sem, F])
    · have q3 : ¬ (0 : Int) < (j : Int) := by omega
      have b0 : (j == 0) = true := by simp; omega
      cases hb : fitB c act k s with
      | false =>
        rw [hb, b0] at hat
        rw [hb] at f2
        rw [bad (by rw [hat, Bool.and_false])]
        have F := And.intro chAV.eq_1 <| And.intro hx <| And.intro q1 <| And.intro h0 <| And.intro h1 <| And.intro hfl <| q3
        repeat (first | refine st ?_ | refine cC f2 ?_ | refine cC fx ?_)
        exact aR
      | true =>
        rw [hb, b0] at hat
        rw [hb] at f2
        have F := And.intro chAV.eq_1 <| And.intro hx <| And.intro q1 <| And.intro q2 <| And.intro h0 <| And.intro h1 <| And.intro hfl <| q3
        repeat (first | refine st ?_ | refine cC f2 ?_)
        refine ⟨j + 1, ⟨hlt, fun m hm => by rcases Nat.lt_succ_iff_lt_or_eq.1 hm with e | e; exact hall m e; rw [e]; exact hat⟩, ?_, ?_, by omega⟩
        · (simp only [go_sem, F])
        · have F := chAV.eq_1
          (simp only [go_sem, F])
  · obtain rfl : j = act.length := by omega
    have q1 : ¬ (act.length : Int) < (act.length : Int) := by omega
    have hc1 : lgChk c act = if manyI act (kidsL c (-1) true) = 1 then (0, -1) else (1, -1) := by
      unfold lgChk
      rw [firstBad_none hall]
    by_cases hm : manyI act (kidsL c (-1) true) = 1
    · rw [if_pos hm] at hc1
      rw [chkE_ok hc1]
      have hmi : ((manyI act (kidsL c (-1) true) : Nat) : Int) = 1 := by omega
      have F := And.intro q1 <| hmi
      repeat (first | refine st ?_ | refine cC f3 ?_ | refine cC f4 ?_)
      exact aR
    · rw [if_neg hm] at hc1
      rw [chkE_bad hc1]
      have hmi : (((manyI act (kidsL c (-1) true) : Nat) : Int) != 1) = true := by simp; omega
      have F := And.intro q1 <| hmi
      repeat (first | refine st ?_ | refine cC f3 ?_ | refine cC f4 ?_ | refine cC fb ?_)
      exact aR
theorem litEs_int (l : List Int) : litEs (l.map intC) = l.map intAV := by
  unfold litEs
  rw [List.map_map]
  rfl
theorem first29_con (env : Env) (c : ChD) (h : Full c) : Con Tryz.prog env 40 [tabAV c] (.tuple [.seq 1 ((riseL c (tbegL c (-1))).map natAV), nilE]) := by
  have hlen := h.few
  have f0 := tabBegin_con env c h (-1)
  obtain ⟨s, hs, hini, _⟩ := h.topS
  have hi := (List.getElem?_eq_some_iff.1 hs).1
  have hz : inZ c c.initial = true := by rw [hini]; exact inZ_nat.2 hi
  have hb : tbegL c (-1) = sbL c (iniN c) := by unfold tbegL; simp only [if_true]; rw [hz, if_pos rfl]; rfl
  have hsort : sortZ (zL (sbL c (iniN c))) = zL (riseL c (sbL c (iniN c))) := sort_rises (sort_nodup h.toRight _) fun k hk => (bg_in h c.states.length _ k hi (by omega) ((sb_mem h hi).1 hk)).2
  rw [hb] at f0 ⊢
  have hL := sb_len h (iniN c)
  generalize sbL c (iniN c) = L at *
  have f1 := sortI_turns (zL L) (by rw [zL_len]; omega)
  have hLi := zL_int L
  have hRi := zL_int (riseL c L)
  unfold tabAV at f0 ⊢
  refine con_of_body Tryz.func40 rfl Tryz.call40 (by rw [Tryz.ntmps40]; simp) ?_
  rw [Tryz.ntmps40, Tryz.results40]
  repeat (first | refine st0 ?_ | refine cC0 f0 ?_)
  refine g_turn 10 rfl (row := ⟨1, (zL L).map intAV, 3, true⟩) f1 (Nat.succ_ne_zero 0) rfl (litEs_int _).symm (by simp only [go_sem]; exact iR) (by simp only [go_sem, hLi]; exact iR) (by simp only [go_sem]; exact iR) (by simp only [go_sem]; exact iR) ?_
  rw [litEs_int, hsort, hRi]
  repeat refine st0 ?_
  exact aR0
end Go.Proofs.YthffdneigmbgfaaGreatDoor
set_option linter.unusedSimpArgs false
namespace Go.Proofs.YthffdneigmbgfaaGreatDoor
open Go.RowKit
set_option maxRecDepth 100000
set_option maxHeartbeats 8000000
theorem cont_more {act : List Int} {j : Nat} {x v : Int} (hx : act[j]? = some x) (hn : (act.take j).contains v = false) (he : x ≠ v) : (act.take (j + 1)).contains v = false := by
  rw [List.take_add_one, hx]
  simp at hn ⊢
  exact ⟨hn, fun q => he q.symm⟩
theorem rInI_con (env : Env) (act : List Int) (v : Int) (hl : act.length ≤ 1000000) : Con Tryz.prog env 25 [.seq 1 (act.map intAV), I v] (B (act.contains v)) := by
  refine con_of_body Tryz.func25 rfl Tryz.call25 (by rw [Tryz.ntmps25]; simp) ?_
  rw [Tryz.ntmps25, Tryz.results25]
  repeat refine st0 ?_
  refine awp_loopH (D := Nat) (fun j _ => [(0, .seq 1 (act.map intAV)), (1, I v), (5, I j)]) (fun _ _ => []) (fun j _ _ => j ≤ act.length ∧ (act.take j).contains v = false) (fun j => act.length - j) 0 ?_ ?_ ?_ ?_
  · exact ⟨Nat.zero_le _, rfl⟩
  · (simp only [go_sem])
  · (simp only [go_sem])
  rintro j ws esc ⟨hj, hno⟩
  by_cases hlt : j < act.length
  · obtain ⟨x, hx⟩ : ∃ x, act[j]? = some x := ⟨act[j], List.getElem?_eq_getElem hlt⟩
    have q1 := nlt hlt
    have q2 := wrap_succ hlt (by omega)
    by_cases e : x = v
    · have hr : act.contains v = true := by rw [List.contains_iff_mem, ← e]; exact List.mem_of_getElem? hx
      rw [hr]
      have q3 : (x == v) = true := by simpa using e
      have F := And.intro hx <| And.intro q1 <| q3
      repeat refine st ?_
      exact aR
    · have q3 : (x == v) = false := by simpa using e
      have F := And.intro hx <| And.intro q1 <| And.intro q2 <| q3
      repeat refine st ?_
      refine ⟨j + 1, ⟨hlt, cont_more hx hno e⟩, ?_, ?_, by omega⟩
      · (simp only [go_sem, F])
      · (simp only [go_sem, F])
  · obtain rfl : j = act.length := by omega
    have q1 : ¬ (act.length : Int) < (act.length : Int) := by omega
    rw [List.take_length] at hno
    rw [hno]
    have F := q1
    repeat refine st ?_
    exact aR
theorem rMany_con (env : Env) (act : List Int) (ks : List Nat) (hl : act.length ≤ 1000000) (hk : ks.length ≤ 4000) : Con Tryz.prog env 99 [.seq 1 (act.map intAV), .seq 1 (ks.map natAV)] (I (manyI act ks : Nat)) := by
  have z0 : manyI act [] = 0 := rfl
  refine con_of_body Tryz.func99 rfl Tryz.call99 (by rw [Tryz.ntmps99]; simp) ?_
  rw [Tryz.ntmps99, Tryz.results99]
  repeat refine st0 ?_
  refine awp_loopH (D := Nat) (fun j _ => [(0, .seq 1 (act.map intAV)), (1, .seq 1 (ks.map natAV)), (5, I (manyI act (ks.take j) : Nat)), (6, I j)]) (fun _ _ => []) (fun j _ _ => j ≤ ks.length) (fun j => ks.length - j) 0 ?_ ?_ ?_ ?_
  · exact Nat.zero_le _
  · have F := z0
    (simp only [go_sem, F])
  · (simp only [go_sem, z0])
  rintro j ws esc hj
  by_cases hlt : j < ks.length
  · obtain ⟨k, hk2⟩ : ∃ k, ks[j]? = some k := ⟨ks[j], List.getElem?_eq_getElem hlt⟩
    have q1 := nlt hlt
    have q2 := wrap_succ hlt (by omega)
    have f0 := rInI_con env act k hl
    have hm := many_to (act := act) hk2
    have hle := many_le act (ks.take j)
    rw [List.length_take] at hle
    have q4 := wrap_succ (show manyI act (ks.take j) < ks.length by omega) (by omega)
    cases hb : act.contains (k : Int) with
    | true =>
      rw [hb] at f0 hm
      rw [if_pos rfl] at hm
      have F := And.intro natAV.eq_1 <| And.intro hk2 <| And.intro q1 <| And.intro q2 <| q4
      repeat (first | refine st ?_ | refine cC f0 ?_)
      refine ⟨j + 1, hlt, ?_, ?_, by omega⟩
      · have F := hm
        (simp only [go_sem, F])
      · (simp only [go_sem, hm])
    | false =>
      rw [hb] at f0 hm
      rw [if_neg Bool.false_ne_true, Nat.add_zero] at hm
      have F := And.intro natAV.eq_1 <| And.intro hk2 <| And.intro q1 <| q2
      repeat (first | refine st ?_ | refine cC f0 ?_)
      refine ⟨j + 1, hlt, ?_, ?_, by omega⟩
      · have F := hm
        (simp only [go_sem, F])
      · (simp only [go_sem, hm])
  · obtain rfl : j = ks.length := by omega
    have q1 : ¬ (ks.length : Int) < (ks.length : Int) := by omega
    have hta : ks.take ks.length = ks := List.take_length
    have F := And.intro q1 <| hta
    repeat refine st ?_
    exact aR
theorem rFits29_con (env : Env) (c : ChD) (h : Full c) (act : List Int) (hl : act.length ≤ 1000000) (k : Nat) (s : StD) (hs : c.states[k]? = some s) : Con Tryz.prog env 98 [.agg (chAV c), .seq 1 (act.map intAV), I k] (B (fitB c act k s)) := by
  have hlen := h.few
  have hi := (List.getElem?_eq_some_iff.1 hs).1
  have q0 : ((k : Nat) : Int) < (c.states.length : Int) := by omega
  have f0 := rKids_con env c k true (by omega)
  have hK := kids_few h.toRight k true
  have f1 := rMany_con env act (kidsL c k true) hl (by omega)
  have f2 := rMemory_con env s
  have f3 := rInI_con env act s.parent hl
  have hF : fitB c act k s = (!memyB s && (decide (s.parent < 0) || act.contains s.parent) && (if s.kind = 1 ∧ kidsL c k true ≠ [] then manyI act (kidsL c k true) == 1 else if s.kind = 2 then manyI act (kidsL c k true) == (kidsL c k true).length else true)) := rfl
  rw [hF]
  try clear hF
  generalize kidsL c k true = K at *
  cases hm : memyB s with
  | true =>
    rw [hm] at f2
    refine con_of_body Tryz.func98 rfl Tryz.call98 (by rw [Tryz.ntmps98]; simp) ?_
    rw [Tryz.ntmps98, Tryz.results98]
    have F := And.intro chAV.eq_1 <| And.intro stAV.eq_1 <| And.intro hs <| q0
    repeat (first | refine st ?_ | refine cC f2 ?_)
    exact aR
  | false =>
    rw [hm] at f2
    by_cases hp : s.parent < 0
    · have g0 : ¬ 0 ≤ s.parent := by omega
      rw [decide_eq_true hp]
      by_cases e1 : s.kind = 1 ∧ K ≠ []
      · have b1 : (s.kind == 1) = true := by simpa using e1.1
        have q1 : (0 : Int) < (K.length : Int) := by have := List.length_pos_iff.2 e1.2; omega
        have q2 : (((manyI act K : Nat) : Int) == 1) = (manyI act K == 1) := by rw [Bool.eq_iff_iff, beq_iff_eq, beq_iff_eq]; omega
        rw [if_pos e1]
        refine con_of_body Tryz.func98 rfl Tryz.call98 (by rw [Tryz.ntmps98]; simp) ?_
        rw [Tryz.ntmps98, Tryz.results98]
        have F := And.intro chAV.eq_1 <| And.intro stAV.eq_1 <| And.intro hs <| And.intro q0 <| And.intro g0 <| And.intro b1 <| And.intro q1 <| q2
        repeat (first | refine st ?_ | refine cC f0 ?_ | refine cC f1 ?_ | refine cC f2 ?_)
        exact aR
      · rw [if_neg e1]
        have q2 : (((manyI act K : Nat) : Int) == (K.length : Int)) = (manyI act K == K.length) := by rw [Bool.eq_iff_iff, beq_iff_eq, beq_iff_eq]; omega
        by_cases e2 : s.kind = 2
        · have b1 : (s.kind == 1) = false := by simp [e2]
          have b2 : (s.kind != 2) = false := by simp [e2]
          rw [if_pos e2]
          refine con_of_body Tryz.func98 rfl Tryz.call98 (by rw [Tryz.ntmps98]; simp) ?_
          rw [Tryz.ntmps98, Tryz.results98]
          have F := And.intro chAV.eq_1 <| And.intro stAV.eq_1 <| And.intro hs <| And.intro q0 <| And.intro g0 <| And.intro b1 <| And.intro b2 <| q2
          repeat (first | refine st ?_ | refine cC f0 ?_ | refine cC f1 ?_ | refine cC f2 ?_)
          exact aR
        · have b2 : (s.kind != 2) = true := by simpa using e2
          rw [if_neg e2]
          by_cases e3 : s.kind = 1
          · have b1 : (s.kind == 1) = true := by simpa using e3
            have q1 : ¬ (0 : Int) < (K.length : Int) := by
              have : K = [] := Classical.byContradiction fun q => e1 ⟨e3, q⟩
              rw [this]; simp
            refine con_of_body Tryz.func98 rfl Tryz.call98 (by rw [Tryz.ntmps98]; simp) ?_
            rw [Tryz.ntmps98, Tryz.results98]
            have F := And.intro chAV.eq_1 <| And.intro stAV.eq_1 <| And.intro hs <| And.intro q0 <| And.intro g0 <| And.intro b1 <| And.intro b2 <| q1
            repeat (first | refine st ?_ | refine cC f0 ?_ | refine cC f1 ?_ | refine cC f2 ?_)
            exact aR
          · have b1 : (s.kind == 1) = false := by simpa using e3
            refine con_of_body Tryz.func98 rfl Tryz.call98 (by rw [Tryz.ntmps98]; simp) ?_
            rw [Tryz.ntmps98, Tryz.results98]
            have F := And.intro chAV.eq_1 <| And.intro stAV.eq_1 <| And.intro hs <| And.intro q0 <| And.intro g0 <| And.intro b1 <| b2
            repeat (first | refine st ?_ | refine cC f0 ?_ | refine cC f1 ?_ | refine cC f2 ?_)
            exact aR
    · have g0 : 0 ≤ s.parent := by omega
      rw [decide_eq_false hp]
      cases hin : act.contains s.parent with
      | false =>
        rw [hin] at f3
        refine con_of_body Tryz.func98 rfl Tryz.call98 (by rw [Tryz.ntmps98]; simp) ?_
        rw [Tryz.ntmps98, Tryz.results98]
        have F := And.intro chAV.eq_1 <| And.intro stAV.eq_1 <| And.intro hs <| And.intro q0 <| g0
        repeat (first | refine st ?_ | refine cC f0 ?_ | refine cC f1 ?_ | refine cC f2 ?_ | refine cC f3 ?_)
        exact aR
      | true =>
        rw [hin] at f3
        by_cases e1 : s.kind = 1 ∧ K ≠ []
        · have b1 : (s.kind == 1) = true := by simpa using e1.1
          have q1 : (0 : Int) < (K.length : Int) := by have := List.length_pos_iff.2 e1.2; omega
          have q2 : (((manyI act K : Nat) : Int) == 1) = (manyI act K == 1) := by rw [Bool.eq_iff_iff, beq_iff_eq, beq_iff_eq]; omega
          rw [if_pos e1]
          refine con_of_body Tryz.func98 rfl Tryz.call98 (by rw [Tryz.ntmps98]; simp) ?_
          rw [Tryz.ntmps98, Tryz.results98]
          have F := And.intro chAV.eq_1 <| And.intro stAV.eq_1 <| And.intro hs <| And.intro q0 <| And.intro g0 <| And.intro b1 <| And.intro q1 <| q2
          repeat (first | refine st ?_ | refine cC f0 ?_ | refine cC f1 ?_ | refine cC f2 ?_ | refine cC f3 ?_)
          exact aR
        · rw [if_neg e1]
          have q2 : (((manyI act K : Nat) : Int) == (K.length : Int)) = (manyI act K == K.length) := by rw [Bool.eq_iff_iff, beq_iff_eq, beq_iff_eq]; omega
          by_cases e2 : s.kind = 2
          · have b1 : (s.kind == 1) = false := by simp [e2]
            have b2 : (s.kind != 2) = false := by simp [e2]
            rw [if_pos e2]
            refine con_of_body Tryz.func98 rfl Tryz.call98 (by rw [Tryz.ntmps98]; simp) ?_
            rw [Tryz.ntmps98, Tryz.results98]
            have F := And.intro chAV.eq_1 <| And.intro stAV.eq_1 <| And.intro hs <| And.intro q0 <| And.intro g0 <| And.intro b1 <| And.intro b2 <| q2
            repeat (first | refine st ?_ | refine cC f0 ?_ | refine cC f1 ?_ | refine cC f2 ?_ | refine cC f3 ?_)
            exact aR
          · have b2 : (s.kind != 2) = true := by simpa using e2
            rw [if_neg e2]
            by_cases e3 : s.kind = 1
            · have b1 : (s.kind == 1) = true := by simpa using e3
              have q1 : ¬ (0 : Int) < (K.length : Int) := by
                have : K = [] := Classical.byContradiction fun q => e1 ⟨e3, q⟩
                rw [this]; simp
              refine con_of_body Tryz.func98 rfl Tryz.call98 (by rw [Tryz.ntmps98]; simp) ?_
              rw [Tryz.ntmps98, Tryz.results98]
              have F := And.intro chAV.eq_1 <| And.intro stAV.eq_1 <| And.intro hs <| And.intro q0 <| And.intro g0 <| And.intro b1 <| And.intro b2 <| q1
              repeat (first | refine st ?_ | refine cC f0 ?_ | refine cC f1 ?_ | refine cC f2 ?_ | refine cC f3 ?_)
              exact aR
            · have b1 : (s.kind == 1) = false := by simpa using e3
              refine con_of_body Tryz.func98 rfl Tryz.call98 (by rw [Tryz.ntmps98]; simp) ?_
              rw [Tryz.ntmps98, Tryz.results98]
              have F := And.intro chAV.eq_1 <| And.intro stAV.eq_1 <| And.intro hs <| And.intro q0 <| And.intro g0 <| And.intro b1 <| b2
              repeat (first | refine st ?_ | refine cC f0 ?_ | refine cC f1 ?_ | refine cC f2 ?_ | refine cC f3 ?_)
              exact aR
theorem rCheck29_con (env : Env) (c : ChD) (h : Full c) (act : List Int) (hl : act.length ≤ 1000000) (hge : ∀ x ∈ act, -1 ≤ x) : Con Tryz.prog env 55 [.agg (chAV c), .seq 1 (act.map intAV)] (.tuple [I (lgChk c act).1, I (lgChk c act).2]) := by
  have hlen := h.few
  have f3 := rKids_con env c (-1) true (by omega)
  have hK := kids_few h.toRight (-1) true
  have f4 := rMany_con env act (kidsL c (-1) true) hl (by omega)
  refine con_of_body Tryz.func55 rfl Tryz.call55 (by rw [Tryz.ntmps55]; simp) ?_
  rw [Tryz.ntmps55, Tryz.results55]
  have F := chAV.eq_1
  repeat refine st ?_
  refine awp_loopH (D := Nat) (fun j vs => [(1, .seq 1 (act.map intAV)), (2, .loc 2 (vs 2) 0 0), (6, I j)]) (fun _ _ => [(2, ⟨5, [chAV c], 26, false⟩)]) (fun j _ _ => j ≤ act.length ∧ ∀ m, m < j → lgAt c act m = true) (fun j => act.length - j) 0 ?_ ?_ ?_ ?_
  · exact ⟨Nat.zero_le _, fun m hm => absurd hm (by omega)⟩
  · (simp only [go_sem, F])
  · have F := chAV.eq_1
    (simp only [go_sem, F])
    try rfl
  rintro j ws esc ⟨hj, hall⟩
  by_cases hlt : j < act.length
  · obtain ⟨x, hx⟩ : ∃ x, act[j]? = some x := ⟨act[j], List.getElem?_eq_getElem hlt⟩
    have hx1 := hge x (List.mem_of_getElem? hx)
    have q1 := nlt hlt
    have q2 := wrap_succ hlt (by omega)
    have q6 : ¬ x < -1 := by omega
    have hat := lgAt_is (c := c) hx
    have f0 := rIs_con env c x
    have bad : lgAt c act j = false → lgChk c act = (1, x) := fun hb => lgChk_bad hx hall hb hx1
    cases hz : inZ c x with
    | false =>
      rw [hz] at f0
      rw [bad (by rw [hat, fitI_out hz, Bool.and_false])]
      have F := And.intro chAV.eq_1 <| And.intro hx <| And.intro q1 <| q6
      repeat (first | refine st ?_ | refine cC f0 ?_)
      exact aR
    | true =>
      rw [hz] at f0
      obtain ⟨k, s, rfl, hs, ha⟩ := at_in hz
      have f2 := rFits29_con env c h act hl k s hs
      rw [fitI_nat hs] at hat
      by_cases hj0 : 0 < j
      · have q3 : (0 : Int) < (j : Int) := by omega
        have q4 : IntKind.i64.wrap ((j : Int) - 1) = ((j - 1 : Nat) : Int) := by rw [wrap_in (by omega) (by omega)]; omega
        have hy := prev_at hj0 hlt
        have q5 : ((j - 1 : Nat) : Int) < (act.length : Int) := by omega
        have b0 : (j == 0) = false := by simp; omega
        generalize act.getD (j - 1) 0 = y at *
        by_cases h2 : (k : Int) ≤ y
        · rw [bad (by rw [hat, b0, decide_eq_false (by omega)]; rfl)]
          have F := And.intro chAV.eq_1 <| And.intro hx <| And.intro q1 <| And.intro q3 <| And.intro q4 <| And.intro q5 <| And.intro q6 <| And.intro hy <| h2
          repeat (first | refine st ?_ | refine cC f0 ?_)
          exact aR
        cases hb : fitB c act k s with
        | false =>
          rw [hb] at f2 hat
          rw [bad (by rw [hat, Bool.and_false])]
          have F := And.intro chAV.eq_1 <| And.intro hx <| And.intro q1 <| And.intro q3 <| And.intro q4 <| And.intro q5 <| And.intro q6 <| And.intro hy <| h2
          repeat (first | refine st ?_ | refine cC f0 ?_ | refine cC f2 ?_)
          exact aR
        | true =>
          rw [hb, b0, decide_eq_true (show y < (k : Int) by omega)] at hat
          rw [hb] at f2
          have F := And.intro chAV.eq_1 <| And.intro hx <| And.intro q1 <| And.intro q2 <| And.intro q3 <| And.intro q4 <| And.intro q5 <| And.intro hy <| h2
          repeat (first | refine st ?_ | refine cC f0 ?_ | refine cC f2 ?_)
          refine ⟨j + 1, ⟨hlt, fun m hm => by rcases Nat.lt_succ_iff_lt_or_eq.1 hm with e | e; exact hall m e; rw [e]; exact hat⟩, ?_, ?_, by omega⟩
          · (simp only [go_sem, F])
          · have F := chAV.eq_1
            (simp only [go_sem, F])
      · have q3 : ¬ (0 : Int) < (j : Int) := by omega
        have b0 : (j == 0) = true := by simp; omega
        cases hb : fitB c act k s with
        | false =>
          rw [hb, b0] at hat
          rw [hb] at f2
          rw [bad (by rw [hat, Bool.and_false])]
          have F := And.intro chAV.eq_1 <| And.intro hx <| And.intro q1 <| And.intro q3 <| q6
          repeat (first | refine st ?_ | refine cC f0 ?_ | refine cC f2 ?_)
          exact aR
        | true =>
          rw [hb, b0] at hat
          rw [hb] at f2
          have F := And.intro chAV.eq_1 <| And.intro hx <| And.intro q1 <| And.intro q2 <| q3
          repeat (first | refine st ?_ | refine cC f0 ?_ | refine cC f2 ?_)
          refine ⟨j + 1, ⟨hlt, fun m hm => by rcases Nat.lt_succ_iff_lt_or_eq.1 hm with e | e; exact hall m e; rw [e]; exact hat⟩, ?_, ?_, by omega⟩
          · (simp only [go_sem, F])
          · have F := chAV.eq_1
            (simp only [go_sem, F])
  · obtain rfl : j = act.length := by omega
    have q1 : ¬ (act.length : Int) < (act.length : Int) := by omega
    have hc1 : lgChk c act = if manyI act (kidsL c (-1) true) = 1 then (0, -1) else (1, -1) := by
      unfold lgChk
      rw [firstBad_none hall]
    rw [hc1]
    by_cases hm : manyI act (kidsL c (-1) true) = 1
    · rw [if_pos hm]
      have hmi : ((manyI act (kidsL c (-1) true) : Nat) : Int) = 1 := by omega
      have F := And.intro chAV.eq_1 <| And.intro q1 <| hmi
      repeat (first | refine st ?_ | refine cC f3 ?_ | refine cC f4 ?_)
      exact aR
    · rw [if_neg hm]
      have hmi : (((manyI act (kidsL c (-1) true) : Nat) : Int) != 1) = true := by simp; omega
      have F := And.intro chAV.eq_1 <| And.intro q1 <| hmi
      repeat (first | refine st ?_ | refine cC f3 ?_ | refine cC f4 ?_)
      exact aR
theorem rLegal_con (env : Env) (c : ChD) (h : Full c) (act : List Int) (hl : act.length ≤ 1000000) (hge : ∀ x ∈ act, -1 ≤ x) : Con Tryz.prog env 42 [.agg (chAV c), .seq 1 (act.map intAV)] (B (lgB c act)) := by
  have f0 := rCheck29_con env c h act hl hge
  unfold lgB
  refine con_of_body Tryz.func42 rfl Tryz.call42 (by rw [Tryz.ntmps42]; simp) ?_
  rw [Tryz.ntmps42, Tryz.results42]
  have F := chAV.eq_1
  repeat (first | refine st ?_ | refine cC f0 ?_)
  exact aR
def riseTo (l : List Nat) (j : Nat) : List Nat := (List.range j).filter fun k => inL l (k : Int)
theorem rising_con (env : Env) (c : ChD) (hc : c.states.length ≤ 4000) (l : List Nat) (hl : l.length ≤ 1000000) : Con Tryz.prog env 48 [.agg (chAV c), .seq 1 (l.map natAV)] (.own 3 1 ((riseL c l).map natAV)) := by
  show Con _ _ _ _ (.own _ 1 ((riseTo l c.states.length).map natAV))
  refine con_of_body Tryz.func48 rfl Tryz.call48 (by rw [Tryz.ntmps48]; simp) ?_
  rw [Tryz.ntmps48, Tryz.results48]
  have F := chAV.eq_1
  repeat refine st ?_
  refine awp_loopH (D := Nat) (fun j vs => [(1, .seq 1 (l.map natAV)), (2, .loc 2 (vs 2) 0 0), (5, .row 7 (vs 7)), (6, I j)]) (fun j _ => [(2, ⟨5, [chAV c], 26, false⟩), (7, ⟨1, (riseTo l j).map natAV, 3, true⟩)]) (fun j _ esc => j ≤ c.states.length ∧ esc 7 = false) (fun j => c.states.length - j) 0 ?_ ?_ ?_ ?_
  · exact ⟨Nat.zero_le _, rfl⟩
  · (simp only [go_sem, F])
  · have F := chAV.eq_1
    (simp only [go_sem, F])
    try rfl
  rintro j ws esc ⟨hj, e0⟩
  by_cases hlt : j < c.states.length
  · have g1 := nlt hlt
    have g2 := wrap_succ hlt (by omega)
    have f1 := rIn_con env l j hl
    unfold nsAV at f1
    have hn : riseTo l (j + 1) = if inL l (j : Int) then riseTo l j ++ [j] else riseTo l j := pfilter_succ (fun k : Nat => inL l (k : Int)) j
    have hle : (riseTo l j).length ≤ j := pfilter_len (fun k : Nat => inL l (k : Int)) j
    have hf : Fits ((riseTo l j).length + 1) 8 := fits_small (by omega) (by omega)
    cases b1 : inL l (j : Int) with
    | true =>
      rw [b1] at f1 hn
      rw [if_pos rfl] at hn
      have F := And.intro chAV.eq_1 <| And.intro natAV.eq_1 <| And.intro g1 <| And.intro g2 <| And.intro hf <| e0
      repeat (first | refine st ?_ | refine cC f1 ?_)
      refine ⟨j + 1, ⟨hlt, by simp only [go_sem, e0]⟩, ?_, ?_, by omega⟩
      · (simp only [go_sem, F])
      · have F := And.intro chAV.eq_1 <| And.intro natAV.eq_1 <| hn
        (simp only [go_sem, List.map_append, F])
    | false =>
      rw [b1] at f1 hn
      rw [if_neg Bool.false_ne_true] at hn
      have F := And.intro chAV.eq_1 <| And.intro natAV.eq_1 <| And.intro g1 <| And.intro g2 <| e0
      repeat (first | refine st ?_ | refine cC f1 ?_)
      refine ⟨j + 1, ⟨hlt, by simp only [go_sem, e0]⟩, ?_, ?_, by omega⟩
      · (simp only [go_sem, F])
      · have F := And.intro chAV.eq_1 <| And.intro natAV.eq_1 <| hn
        (simp only [go_sem, F])
  · obtain rfl : j = c.states.length := by omega
    have g1 : ¬ (c.states.length : Int) < (c.states.length : Int) := by omega
    have F := And.intro chAV.eq_1 <| And.intro g1 <| e0
    repeat refine st ?_
    exact aR
theorem rFirst29_con (env : Env) (c : ChD) (h : Full c) : Con Tryz.prog env 41 [.agg (chAV c)] (.own 3 1 ((riseL c (tbegL c (-1))).map natAV)) := by
  have hlen := h.few
  have f0 := rBegin_con env c h (-1)
  have f1 := rising_con env c (by omega) (tbegL c (-1)) (by have := tbeg_len h (-1); omega)
  refine con_of_body Tryz.func41 rfl Tryz.call41 (by rw [Tryz.ntmps41]; simp) ?_
  rw [Tryz.ntmps41, Tryz.results41]
  have F := chAV.eq_1
  repeat (first | refine st ?_ | refine cC f0 ?_ | refine cC f1 ?_)
  exact aR
end Go.Proofs.YthffdneigmbgfaaGreatDoor
