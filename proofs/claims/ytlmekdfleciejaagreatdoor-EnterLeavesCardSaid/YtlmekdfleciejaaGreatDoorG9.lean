/- A case that came in: a chart, active states, a transition, memories. -/
import Derived.Test.YtlmekdfleciejaaGreatDoorG1
import Derived.Test.YtlmekdfleciejaaGreatDoorG8
import Derived.Test.YtlmekdfleciejaaGreatDoorM8
import Derived.Test.YtlmekdfleciejaaGreatDoorM43
import Derived.Test.YtlmekdfleciejaaGreatDoorG2
import Derived.Test.YtlmekdfleciejaaGreatDoorG5
set_option linter.unusedSimpArgs false
namespace Go.Proofs.YtlmekdfleciejaaGreatDoor
open Go.RowKit
set_option maxRecDepth 100000
set_option maxHeartbeats 16000000
theorem haveE_add (l : List Int) (x : Int) : haveE (l ++ [x]) = haveE l ++ [[I x, I 1]] := by unfold haveE; rw [List.map_append]; rfl
def addTo (L K : List Int) (j : Nat) : List Int := (K.take j).filter fun k => !L.contains k
theorem addTo_next {L K : List Int} {j : Nat} {x : Int} (h : K[j]? = some x) : addTo L K (j + 1) = if L.contains x = true then addTo L K j else addTo L K j ++ [x] := by
  unfold addTo
  rw [List.take_add_one, h, List.filter_append]
  cases hb : L.contains x <;> simp only [List.filter_cons, hb, Bool.not_true, Bool.not_false, Bool.false_eq_true, if_true, if_false, List.filter_nil, List.append_nil, Option.toList_some]
theorem addTo_mem {L K : List Int} {j : Nat} {x : Int} : x ∈ addTo L K j ↔ x ∈ K.take j ∧ x ∉ L := by
  unfold addTo
  rw [List.mem_filter]
  simp
theorem nodup_take {K : List Int} (hn : K.Nodup) {j : Nat} {x : Int} (h : K[j]? = some x) : x ∉ K.take j := fun hh => by
  obtain ⟨k, hk, e⟩ := List.mem_take_iff_getElem.1 hh
  obtain ⟨hj, e2⟩ := List.getElem?_eq_some_iff.1 h
  have := (List.getElem_inj hn (h₀ := by omega) (h₁ := hj)).1 (e.trans e2.symm)
  omega
theorem at_have {l : List Int} {k : Int} {i : Nat} (h : l[i]? = some k) : (haveE l)[i]? = some [I k, I 1] := by unfold haveE; rw [List.getElem?_map, h]; rfl
theorem grow_con (env : Env) (c : ChD) (h : Full c) (hs : Small c) (l : List Int) (hn : l.Nodup) (hz : ∀ x ∈ l, inZ c x = true) : Con Tryz.prog env 162 [tabAV c, .seq 1 (l.map intAV)] (.seq 1 ((growL c l).map intAV)) := by
  have hc := h.toRight
  have hlen := hc.few
  have hl32 : l.length ≤ 32 := Nat.le_trans (few_of hn hz) hlen
  have f0 := tabChart_con env c hs
  have w1 : IntKind.i64.wrap (0 + 1) = 1 := rfl
  have w2 : ¬ (0 : Int) < 0 := by omega
  have w3 : (0 : Int) < 1 := by omega
  unfold tabAV at f0 ⊢
  refine con_of_body Tryz.func162 rfl Tryz.call162 (by rw [Tryz.ntmps162]; simp) ?_
  rw [Tryz.ntmps162, Tryz.results162]
  repeat refine st0 ?_
  refine awp_scope ?_
  have F := chAV.eq_1
  repeat (first | refine st ?_ | refine cC f0 ?_)
  refine awp_loopH (D := Nat) (fun j vs => [(0, .ref 9 [tabCells c] 0 0), (1, .seq 1 (l.map intAV)), (5, .loc 5 (vs 5) 0 0), (6, .mp 18 (vs 18)), (19, .seq 1 (l.map intAV)), (20, I l.length), (21, I j)]) (fun j _ => [(5, ⟨5, [chAV c], 26, false⟩), (18, ⟨0, haveE (l.take j), 112, true⟩)]) (fun j _ _ => j ≤ l.length) (fun j => l.length - j) 0 ?_ ?_ ?_ ?_
  · exact Nat.zero_le _
  · (simp only [go_sem, F])
    try rfl
  · have F := chAV.eq_1
    (simp only [go_sem, F])
    try rfl
  · rintro j ws esc hj
    by_cases hlt : j < l.length
    · obtain ⟨x, hx⟩ : ∃ x, l[j]? = some x := ⟨l[j], List.getElem?_eq_getElem hlt⟩
      have q1 := nlt hlt
      have q2 := wrap_succ hlt (by omega)
      have hm := mfind_H x (l.take j) 0
      rw [idxZ_none (nodup_take hn hx)] at hm
      have ht : haveE (l.take (j + 1)) = haveE (l.take j) ++ [[I x, I 1]] := by rw [List.take_add_one, hx]; exact haveE_add _ _
      have F := And.intro hx <| And.intro q1 <| And.intro q2 <| And.intro hm <| w1
      repeat refine st ?_
      refine ⟨j + 1, hlt, ?_, ?_, by omega⟩
      · (simp only [go_sem, F])
      · have F := ht
        (simp only [go_sem, F])
    obtain rfl : j = l.length := by omega
    have q1 : ¬ (l.length : Int) < (l.length : Int) := by omega
    rw [List.take_length]
    have F := q1
    repeat refine st ?_
    refine awp_label ?_
    show awp _ _ _ _ _ _
    repeat refine st ?_
    refine awp_loopH (D := List Int × List Int) (fun d vs => [(0, .ref 9 [tabCells c] 0 0), (1, .seq 1 (d.1.map intAV)), (5, .loc 5 (vs 5) 0 0), (6, .mp 18 (vs 18)), (9, .seq 1 (d.2.map intAV))]) (fun d _ => [(5, ⟨5, [chAV c], 26, false⟩), (18, ⟨0, haveE d.1, 112, true⟩)])
      (fun d _ _ => Grown c l d.1 d.2 ∧ d.1.Nodup ∧ growF c (missL c d.1 + d.2.length) d.1 d.2 = growL c l) (fun d => missL c d.1 + d.2.length) (l, l) ?_ ?_ ?_ ?_
    · exact ⟨grown_first hn, hn, rfl⟩
    · (simp only [go_sem, F])
      try rfl
    · (simp only [go_sem, F])
      try rfl
    try clear hj hlt q1
    rintro ⟨L, T⟩ ws esc ⟨hg, hLn, hgr⟩
    simp only at hg hLn hgr
    have hLz : ∀ x ∈ L, inZ c x = true := fun x hx => (hg.gr x hx).in h hz
    have hL32 : L.length ≤ 32 := Nat.le_trans (few_of hLn hLz) hlen
    have hT32 : T.length ≤ 32 := Nat.le_trans (few_of hg.nd fun x hx => hLz x (hg.todo x hx)) hlen
    cases T with
    | nil =>
      have hL : growL c l = L := by
        rw [← hgr]
        cases missL c L + ([] : List Int).length <;> rfl
      rw [hL]
      have q1 : ¬ (0 : Int) < 0 := by omega
      have F := q1
      repeat refine st ?_
      exact aR
    | cons i r =>
    have hi := hg.todo i (by simp)
    obtain ⟨k, s, rfl, hsk, hat⟩ := at_in (hLz i hi)
    have hk := (List.getElem?_eq_some_iff.1 hsk).1
    have q1 : (0 : Int) < (((k : Int) :: r).length : Int) := by simp only [List.length_cons]; omega
    have q2 : ((k : Nat) : Int) < (c.states.length : Int) := by omega
    have q3 : (((k : Int) :: r).drop 1).take (((k : Int) :: r).length - 1) = r := by simp
    have q4 : (1 : Int) ≤ (((k : Int) :: r).length : Int) := by simp only [List.length_cons]; omega
    have q5 : ((k : Int) :: r)[0]? = some (k : Int) := rfl
    have f1 := tabReal_con env c h k
    rw [if_pos (.inr (hLz _ hi)), ← zL_int] at f1
    unfold tabAV at f1
    have hKd : zL (kidsL c (k : Int) true) = kidZ c (k : Int) := rfl
    rw [hKd] at f1
    have hpl := plain_at hsk
    have hini : iniZ c (k : Int) = s.initial := by unfold iniZ; rw [hat]
    have hstep := hg.step h
    have hmiss := miss_add (c := c) (l := L) (addK_nodup c L k) fun x hx => ⟨(addK_of h hx).1, (addK_of h hx).2.1⟩
    have hgr' : growF c (missL c L + r.length) (L ++ addK c L k) (r ++ addK c L k) = growL c l := by
      rw [← hgr, List.length_cons, show missL c L + (r.length + 1) = (missL c L + r.length) + 1 by omega]
      rfl
    have hmore : growF c (missL c (L ++ addK c L k) + (r ++ addK c L k).length) (L ++ addK c L k) (r ++ addK c L k) = growL c l := by
      rw [← hgr']
      refine grow_fuel h hstep ?_ ?_
      · exact Nat.le_refl _
      · rw [List.length_append]; omega
    have hnext : (L ++ addK c L k).Nodup := by
      rw [List.nodup_append]
      exact ⟨hLn, addK_nodup c L k, fun x hx y hy e => (addK_of h hy).1 (by rw [← e]; exact hx)⟩
    have hmu : missL c (L ++ addK c L k) + (r ++ addK c L k).length < missL c L + ((k : Int) :: r).length := by
      rw [List.length_append, List.length_cons]; omega
    generalize hKK : kidZ c (k : Int) = KK at *
    have hKn : KK.Nodup := by rw [← hKK]; exact kidZ_nodup c k
    have hK32 : KK.length ≤ 32 := by
      rw [← hKK, kidZ, zL_len]; exact kids_few hc k true
    have fin : ∀ x : Int, x ∉ L → mfind Tryz.prog 3 (I x) (haveE L) 0 = some none := fun x hx => by rw [mfind_H, idxZ_none hx]
    have fyes : ∀ x : Int, x ∈ L → ∃ p, mfind Tryz.prog 3 (I x) (haveE L) 0 = some (some p) ∧ (haveE L)[p]? = some [I x, I 1] := fun x hx => by
      obtain ⟨p, h1, h2⟩ := idxZ_some (n := 0) hx
      exact ⟨p, by rw [mfind_H, h1, Nat.zero_add], at_have h2⟩
    generalize hT : (k : Int) :: r = T at *
    have F := And.intro q1 <| And.intro q2 <| And.intro q3 <| And.intro q4 <| And.intro q5 <| And.intro hsk <| And.intro chAV.eq_1 <| stAV.eq_1
    repeat (first | refine st ?_ | refine cC f1 ?_)
    refine awp_mid (D := List Int) (fun K vs => [(0, .ref 9 [tabCells c] 0 0), (1, .seq 1 (L.map intAV)), (5, .loc 5 (vs 5) 0 0), (6, .mp 18 (vs 18)), (9, .seq 1 (r.map intAV)), (11, .seq 1 (K.map intAV))]) (fun _ _ => [(5, ⟨5, [chAV c], 26, false⟩), (18, ⟨0, haveE L, 112, true⟩)]) (fun K _ _ => K = newK c L k) ?_ ?_
    · refine awp_late ?_
      by_cases hk1 : s.kind = 1
      · have b1 : (s.kind == 1) = true := by simp [hk1]
        rw [b1] at hpl
        have F := b1
        repeat refine st ?_
        refine awp_loopH (D := Nat) (fun j vs => [(0, .ref 9 [tabCells c] 0 0), (1, .seq 1 (L.map intAV)), (5, .loc 5 (vs 5) 0 0), (6, .mp 18 (vs 18)), (9, .seq 1 (r.map intAV)), (10, I k), (49, .row 41 (vs 41)), (50, I KK.length), (51, I j)]) (fun _ _ => [(5, ⟨5, [chAV c], 26, false⟩), (18, ⟨0, haveE L, 112, true⟩), (41, ⟨1, KK.map intAV, 3, true⟩)]) (fun j _ _ => j ≤ KK.length ∧ ∀ m (y : Int), m < j → KK[m]? = some y → y ∉ L) (fun j => KK.length - j) 0 ?_ ?_ ?_ ?_
        · exact ⟨Nat.zero_le _, fun m y hm => absurd hm (by omega)⟩
        · (simp only [go_sem, F])
          try rfl
        · have F := chAV.eq_1
          (simp only [go_sem, F])
          try rfl
        rintro j us es ⟨hj, hno⟩
        by_cases hlt : j < KK.length
        · obtain ⟨x, hx⟩ : ∃ x, KK[j]? = some x := ⟨KK[j], List.getElem?_eq_getElem hlt⟩
          have p1 := nlt hlt
          have p2 := wrap_succ hlt (by omega)
          by_cases hxL : x ∈ L
          · obtain ⟨p, m1, m2⟩ := fyes x hxL
            have hnk : addK c L k = [] := by
              unfold addK newK
              rw [if_pos hpl, hKK, if_pos (List.any_eq_true.2 ⟨x, List.mem_of_getElem? hx, List.contains_iff_mem.2 hxL⟩)]
              rfl
            rw [hnk, List.append_nil, List.append_nil] at hmore hmu hstep
            have F := And.intro hx <| And.intro p1 <| And.intro p2 <| And.intro m1 <| And.intro m2 <| w3
            repeat refine st ?_
            refine ⟨_, Turned.refl _, (L, r), ⟨hstep, hLn, hmore⟩, ?_, ?_, hmu⟩
            · (simp only [go_sem, F])
            · have F := chAV.eq_1
              (simp only [go_sem, F])
          · have m1 := fin x hxL
            have F := And.intro hx <| And.intro p1 <| And.intro p2 <| And.intro m1 <| w2
            repeat refine st ?_
            refine ⟨j + 1, ⟨hlt, fun m y hm hy => ?_⟩, ?_, ?_, by omega⟩
            · rcases Nat.lt_succ_iff_lt_or_eq.1 hm with e | e
              · exact hno m y e hy
              · rw [e, hx] at hy; cases hy; exact hxL
            · (simp only [go_sem, F])
            · have F := chAV.eq_1
              (simp only [go_sem, F])
        · obtain rfl : j = KK.length := by omega
          have p1 : ¬ (KK.length : Int) < (KK.length : Int) := by omega
          have hany : (kidZ c (k : Int)).any (fun k => L.contains k) = false := by
            rw [List.any_eq_false]
            intro y hy
            rw [hKK] at hy
            obtain ⟨m, hm⟩ := List.mem_iff_getElem?.1 hy
            have := hno m y (List.getElem?_eq_some_iff.1 hm).1 hm
            simpa using this
          by_cases h0 : 0 ≤ s.initial
          · have hnew : newK c L k = [s.initial] := by
              unfold newK
              rw [if_pos hpl, if_neg (by rw [hany]; simp), hini, if_pos h0]
            have F := And.intro p1 <| And.intro h0 <| And.intro q2 <| And.intro hsk <| And.intro chAV.eq_1 <| stAV.eq_1
            repeat refine st ?_
            refine ⟨_, Turned.frozen 73 11 ⟨1, [[I s.initial]], 3, true⟩ rfl (Nat.succ_ne_zero 0) (by simp only [go_sem]) (by simp only [go_sem]), [s.initial], hnew.symm, ?_, ?_⟩
            · (simp only [go_sem, F])
            · have F := chAV.eq_1
              (simp only [go_sem, F])
          · have hnew : newK c L k = [] := by
              unfold newK
              rw [if_pos hpl, if_neg (by rw [hany]; simp), hini, if_neg h0]
            have F := And.intro p1 <| And.intro h0 <| And.intro q2 <| And.intro hsk <| And.intro chAV.eq_1 <| stAV.eq_1
            repeat refine st ?_
            refine ⟨_, Turned.nil 11 1 (by simp only [go_sem]), [], hnew.symm, ?_, ?_⟩
            · (simp only [go_sem, F])
            · have F := chAV.eq_1
              (simp only [go_sem, F])
      · have b1 : (s.kind == 1) = false := by simpa using hk1
        rw [b1] at hpl
        have hnew : newK c L k = KK := by
          unfold newK
          rw [if_neg (by rw [hpl]; simp), hKK]
        have F := b1
        repeat refine st ?_
        refine ⟨_, Turned.frozen 41 11 ⟨1, KK.map intAV, 3, true⟩ rfl (Nat.succ_ne_zero 0) (by simp only [go_sem]) (by simp only [go_sem]), KK, hnew.symm, ?_, ?_⟩
        · (simp only [go_sem, F])
        · have F := chAV.eq_1
          (simp only [go_sem, F])
    · intro K us es hK
      have hKn2 : K.Nodup := by rw [hK]; exact newK_nodup c L k
      have hKz : ∀ x ∈ K, inZ c x = true := fun x hx => by
        rw [hK] at hx
        exact (kidZ_of hc (newK_kid h hx)).1
      have hK32b : K.length ≤ 32 := Nat.le_trans (few_of hKn2 hKz) hlen
      have hadd : addTo L K K.length = addK c L k := by unfold addTo addK; rw [List.take_length, hK]
      have hr32 : r.length ≤ 32 := by rw [← hT, List.length_cons] at hT32; omega
      repeat (first | refine oO rfl (by simp only [go_sem, chAV]; exact ⟨rfl, rfl⟩) ?_ | refine gR ?_ | refine gO ?_ | refine oZ (d_end ?_) | refine oZ ?_ | refine oS ?_ | refine gT ?_ | refine gD Tryz.mixed ?_ | refine oB ?_ | refine oK ?_ | (refine oX ?_; simp only [thenA, blockA, ↓reduceIte, Nat.reduceEqDiff, reduceCtorEq]) | refine oY (by simp only [go_sem, chAV]; exact iR) ?_ | refine oN (by simp only [go_sem, chAV]; exact iR) ?_)
      refine awp_loopH (D := Nat) (fun j vs => [(0, .ref 9 [tabCells c] 0 0), (1, .seq 1 ((L ++ addTo L K j).map intAV)), (5, .loc 5 (vs 5) 0 0), (6, .mp 18 (vs 18)), (9, .seq 1 ((r ++ addTo L K j).map intAV)), (74, .seq 1 (K.map intAV)), (75, I K.length), (76, I j)]) (fun j _ => [(5, ⟨5, [chAV c], 26, false⟩), (18, ⟨0, haveE (L ++ addTo L K j), 112, true⟩)]) (fun j _ _ => j ≤ K.length) (fun j => K.length - j) 0 ?_ ?_ ?_ ?_
      · exact Nat.zero_le _
      · have : addTo L K 0 = [] := rfl
        rw [this, List.append_nil, List.append_nil]
        (simp only [go_sem, chAV])
        try rfl
      · have : addTo L K 0 = [] := rfl
        rw [this, List.append_nil]
        (simp only [go_sem, chAV])
        try rfl
      rintro j us es hj
      by_cases hlt : j < K.length
      · obtain ⟨x, hx⟩ : ∃ x, K[j]? = some x := ⟨K[j], List.getElem?_eq_getElem hlt⟩
        have p1 := nlt hlt
        have p2 := wrap_succ hlt (by omega)
        have hnx := addTo_next (L := L) hx
        have hal : (addTo L K j).length ≤ 32 := Nat.le_trans (List.length_filter_le ..) (by rw [List.length_take]; omega)
        refine awp_late ?_
        by_cases hxL : x ∈ L
        · rw [if_pos (List.contains_iff_mem.2 hxL)] at hnx
          obtain ⟨p, m1, m2⟩ := idxZ_some (n := 0) (show x ∈ L ++ addTo L K j from List.mem_append_left _ hxL)
          have m3 := mfind_H x (L ++ addTo L K j) 0
          rw [m1, Nat.zero_add] at m3
          have m4 := at_have m2
          have F := And.intro hx <| And.intro p1 <| And.intro p2 <| And.intro m3 <| m4
          repeat refine st ?_
          refine ⟨_, Turned.refl _, j + 1, hlt, ?_, ?_, by omega⟩
          · have F := hnx
            (simp only [go_sem, F])
          · have F := And.intro hnx <| chAV.eq_1
            (simp only [go_sem, F])
        · have hxn : x ∉ L ++ addTo L K j := fun hh => by
            rcases List.mem_append.1 hh with hh | hh
            · exact hxL hh
            · exact nodup_take hKn2 hx (addTo_mem.1 hh).1
          rw [if_neg (by simpa using hxL)] at hnx
          have m3 := mfind_H x (L ++ addTo L K j) 0
          rw [idxZ_none hxn] at m3
          have e1 : haveE (L ++ addTo L K (j + 1)) = haveE (L ++ addTo L K j) ++ [[I x, I 1]] := by rw [hnx, ← List.append_assoc]; exact haveE_add _ _
          have e2 : L ++ addTo L K (j + 1) = (L ++ addTo L K j) ++ [x] := by rw [hnx, List.append_assoc]
          have e3 : r ++ addTo L K (j + 1) = (r ++ addTo L K j) ++ [x] := by rw [hnx, List.append_assoc]
          have hf1 : Fits ((L ++ addTo L K j).length + 1) 8 := fits_small (by rw [List.length_append]; omega) (by omega)
          have hf2 : Fits ((r ++ addTo L K j).length + 1) 8 := fits_small (by rw [List.length_append]; omega) (by omega)
          generalize hA : L ++ addTo L K j = A at *
          generalize hB : r ++ addTo L K j = B at *
          have F := And.intro hx <| And.intro p1 <| And.intro p2 <| And.intro m3 <| And.intro w1 <| And.intro hf1 <| hf2
          repeat refine st ?_
          refine ⟨_, (Turned.frozen 96 1 ⟨1, (A ++ [x]).map intAV, 3, true⟩ rfl (Nat.succ_ne_zero 0) (by simp only [go_sem, List.map_append]) (by simp only [go_sem])).trans (Turned.frozen 105 9 ⟨1, (B ++ [x]).map intAV, 3, true⟩ rfl (Nat.succ_ne_zero 0) (by simp only [go_sem, List.map_append]) (by simp only [go_sem])), j + 1, hlt, ?_, ?_, by omega⟩
          · have F := And.intro e2 <| e3
            (simp only [go_sem, F])
          · have F := And.intro e1 <| chAV.eq_1
            (simp only [go_sem, F])
      · obtain rfl : j = K.length := by omega
        have p1 : ¬ (K.length : Int) < (K.length : Int) := by omega
        rw [hadd]
        have F := p1
        repeat refine st ?_
        refine ⟨(L ++ addK c L k, r ++ addK c L k), ⟨hstep, hnext, hmore⟩, ?_, ?_, hmu⟩
        · (simp only [go_sem, F])
        · have F := chAV.eq_1
          (simp only [go_sem, F])
end Go.Proofs.YtlmekdfleciejaaGreatDoor
set_option linter.unusedSimpArgs false
namespace Go.Proofs.YtlmekdfleciejaaGreatDoor
open Go.RowKit Go.ChangeShapes Go.WideShapes Go.ChangeAt
set_option maxRecDepth 100000
def mmAV (m : MemD) : List AV := [I m.1, .seq 1 (m.2.map intAV)]
def caseAV (c : ChD) (act : List Int) (n : Int) (mem : List MemD) : List AV := [Sg c.name, I c.initial, varsAV c.vars, stsAV c.states, trsAV c.trans, .seq 1 (act.map intAV), I n, .seq 2 (mem.map mmAV)]
def few_mm (m : MemD) : Prop := m.2.length ≤ maxLen
theorem c_ints : Tryz.prog.cellsOf 35 = 1 := by kernel_rfl
theorem c_mem : Tryz.prog.cellsOf 133 = 2 := by kernel_rfl
theorem c_mems : Tryz.prog.cellsOf 63 = 1 := by kernel_rfl
theorem c_case : Tryz.prog.cellsOf 65 = 8 := by kernel_rfl
section
variable {H : Type} {enc : TypeId × Value → H} {w : World} {base : Nat} {spare : Nat → Bool} {held : Bool}
theorem open_int1 (m : Nat) (cs : List Value) (y : DataW H × List MemPlace) (h : DataW.trod enc Tryz.prog w base spare held m 3 cs = some y) : ∃ a : Int, RE w intAV (fun _ => True) cs a := by
  obtain ⟨n, rfl, -, -⟩ := DataW.trod_int Tryz.underlying3 h
  exact ⟨n, ⟨⟨rfl, .lit _⟩, trivial⟩, trivial⟩
theorem open_mem1 (m : Nat) (cs : List Value) (y : DataW H × List MemPlace) (h : DataW.trod enc Tryz.prog w base spare held m 133 cs = some y) : ∃ a : MemD, RE w mmAV few_mm cs a := by
  obtain ⟨xs, n, _, _, hl, hxl, hg⟩ := DataW.trod_struct Tryz.underlying133 h
  rw [c_mem] at hl
  obtain ⟨c0, c1, rfl⟩ := len_2 hl
  obtain ⟨y0, h0⟩ := trodF hxl hg 0 _ rfl 3 0 1 rfl rfl c_int
  obtain ⟨x0, e0, -, -⟩ := DataW.trod_int Tryz.underlying3 (show DataW.trod enc Tryz.prog w base spare held n 3 [c0] = some y0 from h0)
  cases e0
  obtain ⟨y1, h1⟩ := trodF hxl hg 1 _ rfl 35 1 1 rfl rfl c_ints
  obtain ⟨x1, l1, e1, r1, n1, -⟩ := open_rows (size := 1) intAV (fun _ => True) (fun _ => rfl) Tryz.underlying35 c_int (by decide) open_int1 (show DataW.trod enc Tryz.prog w base spare held n 35 [c1] = some y1 from h1)
  cases e1
  exact ⟨(x0, l1), ⟨⟨rfl, .lit _⟩, r1, trivial⟩, n1⟩
theorem len_8 {l : List Value} (h : l.length = 8) : ∃ a b c d e f g i, l = [a, b, c, d, e, f, g, i] := by
  match l, h with
  | [a, b, c, d, e, f, g, i], _ => exact ⟨a, b, c, d, e, f, g, i, rfl⟩
theorem RVs.app {S : Nat → Nat → Prop} {w : World} : ∀ {vs us : List Value} {cs ds : List AV}, RVs S w vs cs → RVs S w us ds → RVs S w (vs ++ us) (cs ++ ds)
  | [], _, [], _, _, h => h
  | _ :: _, _, _ :: _, _, h1, h2 => ⟨h1.1, RVs.app h1.2 h2⟩
theorem open_case {r0 : Reach} {b0 : Nat} {v : Value} {d : DataW H} {p : List MemPlace} (hv : Value.okWide Tryz.prog w r0 b0 65 v) (h : DataW.Trod enc Tryz.prog w base spare held 65 v d p) :
    ∃ (c : ChD) (act : List Int) (n : Int) (mem : List MemD), few_ch c ∧ act.length ≤ 9223372036854775807 ∧ mem.length ≤ 9223372036854775807 ∧ (∀ m ∈ mem, m.2.length ≤ 9223372036854775807) ∧ RV (fun b _ => b < w.heap.size) w v (.agg (caseAV c act n mem)) := by
  obtain ⟨cs, rfl, hsz⟩ := okWide_struct Tryz.underlying65 hv
  obtain ⟨l⟩ := cs
  obtain ⟨fuel, hf⟩ := h
  obtain ⟨xs, n, _, _, hl, hxl, hg⟩ := DataW.trod_struct Tryz.underlying65 hf
  rw [c_case] at hl
  obtain ⟨c0, c1, c2, c3, c4, c5, c6, c7, rfl⟩ := len_8 (show l.length = 8 from hl)
  obtain ⟨y0, h0⟩ := trodF hxl hg 0 _ rfl 26 0 5 rfl rfl c_ch
  obtain ⟨c, q1, q2⟩ := open_ch _ _ _ h0
  obtain ⟨y1, h1⟩ := trodF hxl hg 1 _ rfl 35 5 1 rfl rfl c_ints
  obtain ⟨x1, l1, e1, r1, n1, -⟩ := open_rows (size := 1) intAV (fun _ => True) (fun _ => rfl) Tryz.underlying35 c_int (by decide) open_int1 (show DataW.trod enc Tryz.prog w base spare held n 35 [c5] = some y1 from h1)
  cases e1
  obtain ⟨y2, h2⟩ := trodF hxl hg 2 _ rfl 3 6 1 rfl rfl c_int
  obtain ⟨x2, e2, -, -⟩ := DataW.trod_int Tryz.underlying3 (show DataW.trod enc Tryz.prog w base spare held n 3 [c6] = some y2 from h2)
  cases e2
  obtain ⟨y3, h3⟩ := trodF hxl hg 3 _ rfl 63 7 1 rfl rfl c_mems
  obtain ⟨x3, l3, e3, r3, n3, p3⟩ := open_rows (size := 2) mmAV few_mm (fun _ => rfl) Tryz.underlying63 c_mem (by decide) open_mem1 (show DataW.trod enc Tryz.prog w base spare held n 63 [c7] = some y3 from h3)
  cases e3
  refine ⟨c, l1, x2, l3, q2, max63 n1, max63 n3, fun m hm => max63 (p3 m hm), RVs.agg (show RVs _ w ([c0, c1, c2, c3, c4] ++ [c5, .int .i64 x2, c7]) (chAV c ++ [.seq 1 (l1.map intAV), I x2, .seq 2 (l3.map mmAV)]) from RVs.app q1 ⟨r1, ⟨rfl, .lit _⟩, r3, trivial⟩)⟩
end
end Go.Proofs.YtlmekdfleciejaaGreatDoor
