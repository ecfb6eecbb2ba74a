/- table.begins, table.Event. -/
import Derived.Test.YtlmekdfleciejaaGreatDoorM12
import Derived.Test.YtlmekdfleciejaaGreatDoorM8
import Derived.Test.YtlmekdfleciejaaGreatDoorM31
set_option linter.unusedSimpArgs false
namespace Go.Proofs.YtlmekdfleciejaaGreatDoor
open Go.RowKit
set_option maxRecDepth 100000
set_option maxHeartbeats 4000000
theorem begins_con (env : Env) (c : ChD) (h : Full c) : ∀ (n i : Nat), i < c.states.length → c.states.length ≤ i + n → Con Tryz.prog env 91 [.agg (chAV c), I i] (.own 3 1 ((bgL c i).map natAV))
  | 0, i, hi, hn => by omega
  | n + 1, i, hi, hn => by
    have hlen := h.few
    obtain ⟨s, hs⟩ : ∃ s, c.states[i]? = some s := ⟨c.states[i], List.getElem?_eq_getElem hi⟩
    have hb := bg_eq h hs
    have hbl := bg_len h hi
    have g0 : ((i : Nat) : Int) < (c.states.length : Int) := by omega
    by_cases e1 : s.kind = 1
    · by_cases e2 : 0 ≤ s.initial
      · obtain ⟨j, hj, e3⟩ := ini_kid h hs e1 e2
        have hg := kid_gt h.toRight (kid_real hj).1
        rw [if_pos ⟨e1, e2⟩, e3, Int.toNat_natCast] at hb
        have f0 := begins_con env c h n j (by omega) (by omega)
        rw [hb] at hbl
        have hf : Fits (1 + (bgL c j).length) 8 := fits_small (by simp at hbl; omega) (by omega)
        rw [hb]
        refine con_of_body Tryz.func91 rfl Tryz.call91 (by rw [Tryz.ntmps91]; simp) ?_
        rw [Tryz.ntmps91, Tryz.results91]
        have F := And.intro chAV.eq_1 <| And.intro stAV.eq_1 <| And.intro hs <| And.intro e1 <| And.intro e3 <| And.intro g0 <| And.intro natAV.eq_1 <| hf
        repeat (first | refine st ?_ | refine cC f0 ?_)
        exact aR
      · rw [if_neg fun e => e2 e.2, if_neg (by omega)] at hb
        rw [hb]
        refine con_of_body Tryz.func91 rfl Tryz.call91 (by rw [Tryz.ntmps91]; simp) ?_
        rw [Tryz.ntmps91, Tryz.results91]
        have F := And.intro chAV.eq_1 <| And.intro stAV.eq_1 <| And.intro hs <| And.intro e1 <| And.intro e2 <| And.intro g0 <| natAV.eq_1
        repeat refine st ?_
        exact aR
    · rw [if_neg fun e => e1 e.1] at hb
      have e1' : (s.kind == 1) = false := by simpa using e1
      by_cases e2 : s.kind = 2
      · rw [if_pos e2] at hb
        have f1 := pReal_con env c i (by omega)
        generalize hK : kidsL c i true = K at *
        have hKm : ∀ k ∈ K, i < k ∧ k < c.states.length := fun k hk => by
          rw [← hK] at hk
          have := kid_gt h.toRight (kid_real hk).1
          omega
        have hKl : K.length ≤ 32 := by
          have := (kidsL_nodup c i true).length_le_of_subset (l₂ := List.range c.states.length) fun m hm => List.mem_range.2 (hKm m (hK ▸ hm)).2
          rw [hK] at this
          simp at this
          omega
        have hpre : ∀ j, (i :: (K.take j).flatMap (bgL c)).length ≤ 32 := fun j => by
          have e : (K.take j).flatMap (bgL c) ++ (K.drop j).flatMap (bgL c) = K.flatMap (bgL c) := by rw [← List.flatMap_append, List.take_append_drop]
          have := congrArg List.length e
          rw [hb] at hbl
          simp only [List.length_cons, List.length_append] at *
          omega
        refine con_of_body Tryz.func91 rfl Tryz.call91 (by rw [Tryz.ntmps91]; simp) ?_
        rw [Tryz.ntmps91, Tryz.results91]
        have F := And.intro chAV.eq_1 <| And.intro stAV.eq_1 <| And.intro hs <| And.intro e1' <| And.intro e2 <| And.intro g0 <| natAV.eq_1
        repeat (first | refine st ?_ | refine cC f1 ?_)
        refine awp_loopH (D := Nat) (fun j vs => [(2, .loc 2 (vs 2) 0 0), (5, .row 10 (vs 10)), (37, .row 37 (vs 37)), (38, I K.length), (39, I j)]) (fun j _ => [(2, ⟨5, [chAV c], 26, false⟩), (10, ⟨1, (i :: (K.take j).flatMap (bgL c)).map natAV, 3, true⟩), (37, ⟨1, K.map natAV, 3, true⟩)]) (fun j _ esc => j ≤ K.length ∧ esc 10 = false) (fun j => K.length - j) 0 ?_ ?_ ?_ ?_
        · exact ⟨Nat.zero_le _, rfl⟩
        · (simp only [go_sem, F])
        · have F := And.intro chAV.eq_1 <| natAV.eq_1
          (simp only [go_sem, List.flatMap_nil, F])
        rintro j ws esc ⟨hj, e0⟩
        by_cases hlt : j < K.length
        · obtain ⟨k, hk⟩ : ∃ k, K[j]? = some k := ⟨K[j], List.getElem?_eq_getElem hlt⟩
          have hkm := hKm k (List.mem_of_getElem? hk)
          have q1 := nlt hlt
          have q2 := wrap_succ hlt (by omega)
          have f0 := begins_con env c h n k (by omega) (by omega)
          have htk : (K.take (j + 1)).flatMap (bgL c) = (K.take j).flatMap (bgL c) ++ bgL c k := by rw [List.take_add_one, hk, List.flatMap_append]; simp
          have hp := hpre (j + 1)
          rw [htk] at hp
          have hf : Fits (((K.take j).flatMap (bgL c)).length + 1 + (bgL c k).length) 8 := fits_small (by simp only [List.length_cons, List.length_append] at hp; omega) (by omega)
          have F := And.intro chAV.eq_1 <| And.intro natAV.eq_1 <| And.intro hk <| And.intro q1 <| And.intro q2 <| And.intro hf <| e0
          repeat (first | refine st ?_ | refine cC f0 ?_)
          refine ⟨j + 1, ⟨hlt, by simp only [go_sem, e0]⟩, ?_, ?_, by omega⟩
          · (simp only [go_sem, F])
          · have F := And.intro chAV.eq_1 <| And.intro natAV.eq_1 <| htk
            (simp only [go_sem, List.map_append, F])
        · obtain rfl : j = K.length := by omega
          have q1 : ¬ (K.length : Int) < (K.length : Int) := by omega
          have hta : K.take K.length = K := List.take_length
          rw [hb]
          have F := And.intro natAV.eq_1 <| And.intro q1 <| And.intro hta <| e0
          repeat refine st ?_
          exact aR
      · rw [if_neg e2] at hb
        have e2' : (s.kind == 2) = false := by simpa using e2
        rw [hb]
        refine con_of_body Tryz.func91 rfl Tryz.call91 (by rw [Tryz.ntmps91]; simp) ?_
        rw [Tryz.ntmps91, Tryz.results91]
        have F := And.intro chAV.eq_1 <| And.intro stAV.eq_1 <| And.intro hs <| And.intro e1' <| And.intro e2' <| And.intro g0 <| natAV.eq_1
        repeat refine st ?_
        exact aR
theorem event_con (env : Env) (c : ChD) (hc : c.trans.length ≤ 1000000) (x y : AV) (s : List UInt8) : Con Tryz.prog env 29 [.ref 9 [[Sg c.name, I c.initial, varsAV c.vars, stsAV c.states, trsAV c.trans, treeAV c, .seq 1 ((evL c).map strAV), x, y]] 0 0, Sg s] (I (evI c s)) := by
  have hl := evL_len c
  have f0 := bsearch_con env (evL c) s (posL (evL c) s) (pos_cut (ev_pair c) s) (by omega)
  unfold evI
  by_cases h : (evL c)[posL (evL c) s]? = some s
  · have hb : ((evL c)[posL (evL c) s]? == some s) = true := by simpa using h
    rw [hb] at f0
    rw [if_pos h]
    refine con_of_body Tryz.func29 rfl Tryz.call29 (by rw [Tryz.ntmps29]; simp) ?_
    rw [Tryz.ntmps29, Tryz.results29]
    repeat (first | refine st0 ?_ | refine cC0 f0 ?_)
    exact aR0
  · have hb : ((evL c)[posL (evL c) s]? == some s) = false := by simpa using h
    rw [hb] at f0
    rw [if_neg h]
    refine con_of_body Tryz.func29 rfl Tryz.call29 (by rw [Tryz.ntmps29]; simp) ?_
    rw [Tryz.ntmps29, Tryz.results29]
    repeat (first | refine st0 ?_ | refine cC0 f0 ?_)
    exact aR0
end Go.Proofs.YtlmekdfleciejaaGreatDoor
