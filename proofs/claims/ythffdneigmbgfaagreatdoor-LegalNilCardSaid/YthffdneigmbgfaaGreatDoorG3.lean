/- What the legal rows' lists of variables give. -/
import Derived.Test.YthffdneigmbgfaaGreatDoorG1
import Derived.Test.YthffdneigmbgfaaGreatDoorG2
import Derived.Test.YthffdneigmbgfaaGreatDoorM7
import Derived.Test.YthffdneigmbgfaaGreatDoorM31
import Derived.Test.YthffdneigmbgfaaGreatDoorM14
import Derived.Test.YthffdneigmbgfaaGreatDoorM19
set_option linter.unusedSimpArgs false
namespace Go.Proofs.YthffdneigmbgfaaGreatDoor
open Go.RowKit
set_option maxRecDepth 100000
set_option maxHeartbeats 8000000
theorem light29_con (env : Env) (c : ChD) : Con Tryz.prog env 85 [.agg (chAV c)] (B (lightTB c)) := by
  unfold lightTB
  by_cases h1 : (c.states.length : Int) ≤ 40 <;> by_cases h2 : (c.trans.length : Int) ≤ 70 <;> by_cases h3 : (c.vars.length : Int) ≤ 10
  all_goals (refine con_of_body Tryz.func85 rfl Tryz.call85 (by rw [Tryz.ntmps85]; simp) ?_
             rw [Tryz.ntmps85, Tryz.results85])
  all_goals have F := And.intro chAV.eq_1 <| And.intro h1 <| And.intro h2 <| h3
  all_goals (repeat refine st ?_)
  all_goals ((refine awp_ret ?_; show (resRd _ _ _).run _ = some _; simp only [go_sem, F]))
theorem rests29_con (env : Env) (c : ChD) : Con Tryz.prog env 38 [.agg (chAV c)] (B (!goodB c)) := by
  have f0 := light29_con env c
  have f1 := rRight_con env c
  unfold goodB
  cases h1 : lightTB c <;> cases h2 : ((chk c).1 == 0)
  all_goals (rw [h1] at f0; rw [h2] at f1)
  all_goals (refine con_of_body Tryz.func38 rfl Tryz.call38 (by rw [Tryz.ntmps38]; simp) ?_
             rw [Tryz.ntmps38, Tryz.results38])
  all_goals (repeat (first | refine st0 ?_ | refine cC0 f0 ?_ | refine cC0 f1 ?_))
  all_goals ((refine awp_ret ?_; show (resRd _ _ _).run _ = some _; simp only [go_sem]))
theorem made29_none (env : Env) (c : ChD) (h : goodB c = false) : Con Tryz.prog env 37 [.agg (chAV c)] (.lit (.pointer none)) := by
  have f0 := light29_con env c
  have f1 := rRight_con env c
  unfold goodB at h
  cases h1 : lightTB c
  · rw [h1] at f0
    refine con_of_body Tryz.func37 rfl Tryz.call37 (by rw [Tryz.ntmps37]; simp) ?_
    rw [Tryz.ntmps37, Tryz.results37]
    repeat (first | refine st0 ?_ | refine cC0 f0 ?_ | refine cC0 f1 ?_)
    exact aR0
  · rw [h1] at f0
    rw [h1, Bool.true_and] at h
    rw [h] at f1
    refine con_of_body Tryz.func37 rfl Tryz.call37 (by rw [Tryz.ntmps37]; simp) ?_
    rw [Tryz.ntmps37, Tryz.results37]
    repeat (first | refine st0 ?_ | refine cC0 f0 ?_ | refine cC0 f1 ?_)
    exact aR0
theorem made29_con (env : Env) (a1 a8 : Addr) (he : ChEnv env a1 a8) (hT : ∀ W, env.inv W → TabAt W) (c : ChD) (hcf : few_ch c) (h : goodB c = true) : Con Tryz.prog env 37 [.agg (chAV c)] (tabAV c) := by
  have f0 := light29_con env c
  have f1 := rRight_con env c
  unfold goodB at h
  rw [Bool.and_eq_true] at h
  rw [h.1] at f0
  rw [h.2] at f1
  rw [beq_iff_eq] at h
  have f2 := table_con env a1 a8 he hT c (chk_at h.2) hcf
  unfold tabAV at f2 ⊢
  refine con_of_body Tryz.func37 rfl Tryz.call37 (by rw [Tryz.ntmps37]; simp) ?_
  rw [Tryz.ntmps37, Tryz.results37]
  repeat (first | refine st0 ?_ | refine cC0 f0 ?_ | refine cC0 f1 ?_ | refine cC0 f2 ?_)
  exact aR0
theorem good_chk {c : ChD} (h : goodB c = true) : (chk c).1 = 0 := by
  unfold goodB at h
  rw [Bool.and_eq_true, beq_iff_eq] at h
  exact h.2
theorem sumG_le {g : Nat → Nat} : ∀ (ks : List Nat) (a : Nat), a ≤ 2147483647 → ks.foldl (fun a k => min (a + g k) 2147483647) a ≤ 2147483647
  | [], _, h => h
  | _ :: ks, _, _ => sumG_le ks _ (Nat.min_le_right ..)
theorem mulG_le {g : Nat → Nat} : ∀ (ks : List Nat) (a : Nat), a ≤ 2147483647 → ks.foldl (fun a k => min (a * g k) 2147483647) a ≤ 2147483647
  | [], _, h => h
  | _ :: ks, _, _ => mulG_le ks _ (Nat.min_le_right ..)
theorem sum29_con (env : Env) (a b : Nat) (ha : a ≤ 2147483647) (hb : b ≤ 2147483647) : Con Tryz.prog env 127 [I a, I b] (I (min (a + b) 2147483647 : Nat)) := by
  have q1 : IntKind.i64.wrap ((a : Int) + (b : Int)) = ((a + b : Nat) : Int) := by rw [wrap_in (by omega) (by omega)]; omega
  by_cases e : 2147483647 < a + b
  · have q2 : (2147483647 : Int) < ((a + b : Nat) : Int) := by omega
    have q3 : min (a + b) 2147483647 = 2147483647 := by omega
    refine con_of_body Tryz.func127 rfl Tryz.call127 (by rw [Tryz.ntmps127]; simp) ?_
    rw [Tryz.ntmps127, Tryz.results127]
    have F := And.intro q1 <| And.intro q2 <| q3
    repeat refine st ?_
    exact aR
  · have q2 : ¬ (2147483647 : Int) < ((a + b : Nat) : Int) := by omega
    have q3 : min (a + b) 2147483647 = a + b := by omega
    refine con_of_body Tryz.func127 rfl Tryz.call127 (by rw [Tryz.ntmps127]; simp) ?_
    rw [Tryz.ntmps127, Tryz.results127]
    have F := And.intro q1 <| And.intro q2 <| q3
    repeat refine st ?_
    exact aR
theorem prod29_con (env : Env) (a b : Nat) (ha : a ≤ 2147483647) (hb : b ≤ 2147483647) : Con Tryz.prog env 126 [I a, I b] (I (min (a * b) 2147483647 : Nat)) := by
  have hm : a * b ≤ 2147483647 * 2147483647 := Nat.mul_le_mul ha hb
  have q1 : IntKind.i64.wrap ((a : Int) * (b : Int)) = ((a * b : Nat) : Int) := by
    rw [← Int.natCast_mul]
    exact wrap_in (by omega) (by omega)
  by_cases e : 2147483647 < a * b
  · have q2 : (2147483647 : Int) < ((a * b : Nat) : Int) := by omega
    have q3 : min (a * b) 2147483647 = 2147483647 := by omega
    refine con_of_body Tryz.func126 rfl Tryz.call126 (by rw [Tryz.ntmps126]; simp) ?_
    rw [Tryz.ntmps126, Tryz.results126]
    have F := And.intro q1 <| And.intro q2 <| q3
    repeat refine st ?_
    exact aR
  · have q2 : ¬ (2147483647 : Int) < ((a * b : Nat) : Int) := by omega
    have q3 : min (a * b) 2147483647 = a * b := by omega
    refine con_of_body Tryz.func126 rfl Tryz.call126 (by rw [Tryz.ntmps126]; simp) ?_
    rw [Tryz.ntmps126, Tryz.results126]
    have F := And.intro q1 <| And.intro q2 <| q3
    repeat refine st ?_
    exact aR
theorem in_cases {c : ChD} {i : Int} (h1 : -1 ≤ i) (h2 : i < (c.states.length : Int)) : i = -1 ∧ parB c i = false ∨ ∃ (k : Nat) (s : StD), i = k ∧ c.states[k]? = some s ∧ parB c i = (s.kind == 2) := by
  by_cases e : i = -1
  · subst e
    exact .inl ⟨rfl, rfl⟩
  · obtain ⟨k, rfl⟩ := nat_of (show 0 ≤ i by omega)
    have hk : k < c.states.length := by omega
    exact .inr ⟨k, c.states[k], rfl, List.getElem?_eq_getElem hk, par_kind (List.getElem?_eq_getElem hk)⟩
theorem count_con (env : Env) (c : ChD) (h : Full c) : ∀ (n : Nat) (i : Int), -1 ≤ i → i < (c.states.length : Int) → (c.states.length : Int) ≤ i + n → Con Tryz.prog env 92 [.agg (chAV c), tabAV c, I i] (I (cntN c i : Nat))
  | 0, i, h1, h2, h3 => by omega
  | n + 1, i, h1, h2, h3 => by
    have hlen := h.few
    have f0 := tabReal_con env c h i
    have hiz : i = -1 ∨ inZ c i = true := by
      by_cases e : i = -1
      · exact .inl e
      · exact .inr (by unfold inZ; rw [decide_eq_true (show 0 ≤ i by omega), decide_eq_true h2]; rfl)
    rw [if_pos hiz] at f0
    have hKl := kids_few h.toRight i true
    have fk : ∀ k ∈ kidsL c i true, Con Tryz.prog env 92 [.agg (chAV c), tabAV c, I k] (I (cntN c k : Nat)) := fun k hk => by
      have := kid_gt h.toRight (kid_real hk).1
      exact count_con env c h n k (by omega) (by omega) (by omega)
    have hkc : ∀ k ∈ kidsL c i true, cntN c k ≤ 2147483647 := fun k hk => (cnt_kid h.toRight hk h1).2
    rw [cnt_eq h.toRight h1]
    generalize kidsL c i true = K at *
    unfold tabAV at f0 fk ⊢
    by_cases hK0 : K = []
    · rw [if_pos hK0]
      have q0 : ((K.length : Nat) : Int) = 0 := by rw [hK0]; rfl
      refine con_of_body Tryz.func92 rfl Tryz.call92 (by rw [Tryz.ntmps92]; simp) ?_
      rw [Tryz.ntmps92, Tryz.results92]
      have F := And.intro chAV.eq_1 <| q0
      repeat (first | refine st ?_ | refine cC f0 ?_)
      exact aR
    rw [if_neg hK0]
    have q0 : (((K.length : Nat) : Int) == 0) = false := by
      have := List.length_pos_iff.2 hK0
      simp; omega
    have hx0 : ∀ j k : Nat, K[j]? = some k → Con Tryz.prog env 92 [.agg (chAV c), .ref 9 [tabCells c] 0 0, I k] (I (cntN c k : Nat)) := fun j k hk => fk k (List.mem_of_getElem? hk)
    have hx1 : ∀ j k : Nat, K[j]? = some k → cntN c k ≤ 2147483647 := fun j k hk => hkc k (List.mem_of_getElem? hk)
    try clear fk hkc
    rcases in_cases h1 h2 with ⟨rfl, hp⟩ | ⟨m, s, rfl, hs, hp⟩
    · rw [hp, if_neg Bool.false_ne_true]
      refine con_of_body Tryz.func92 rfl Tryz.call92 (by rw [Tryz.ntmps92]; simp) ?_
      rw [Tryz.ntmps92, Tryz.results92]
      have F := And.intro chAV.eq_1 <| q0
      repeat (first | refine st ?_ | refine cC f0 ?_)
      refine awp_loopH (D := Nat) (fun j vs => [(1, .ref 9 [tabCells c] 0 0), (3, .loc 3 (vs 3) 0 0), (11, I (sumG (fun k => cntN c k) (K.take j) : Nat)), (45, .row 16 (vs 16)), (46, I K.length), (47, I j)]) (fun _ _ => [(3, ⟨5, [chAV c], 26, false⟩), (16, ⟨1, K.map natAV, 3, true⟩)]) (fun j _ _ => j ≤ K.length) (fun j => K.length - j) 0 ?_ ?_ ?_ ?_
      · exact Nat.zero_le _
      · have z0 : sumG (fun k => cntN c k) [] = 0 := rfl
        have F := z0
        (simp only [go_sem, F])
      · have F := chAV.eq_1
        (simp only [go_sem, F])
        try rfl
      rintro j ws esc hj
      by_cases hlt : j < K.length
      · obtain ⟨k, hk⟩ : ∃ k, K[j]? = some k := ⟨K[j], List.getElem?_eq_getElem hlt⟩
        have g1 := nlt hlt
        have g2 := wrap_succ hlt (by omega)
        have f1 := hx0 j k hk
        have f2 := sum29_con env (sumG (fun k => cntN c k) (K.take j)) (cntN c k) (sumG_le _ _ (by omega)) (hx1 j k hk)
        have hn := sum_more (g := fun k => cntN c k) hk
        have F := And.intro chAV.eq_1 <| And.intro natAV.eq_1 <| And.intro g1 <| And.intro g2 <| hk
        repeat (first | refine st ?_ | refine cC f1 ?_ | refine cC f2 ?_)
        refine ⟨j + 1, hlt, ?_, ?_, by omega⟩
        · have F := hn
          (simp only [go_sem, F])
        · have F := chAV.eq_1
          (simp only [go_sem, F])
      · obtain rfl : j = K.length := by omega
        have g1 : ¬ (K.length : Int) < (K.length : Int) := by omega
        have hta : K.take K.length = K := List.take_length
        have F := And.intro g1 <| hta
        repeat refine st ?_
        exact aR
    · have g0 : ((m : Nat) : Int) < (c.states.length : Int) := h2
      cases hp2 : (s.kind == 2) with
      | false =>
        rw [hp2] at hp
        rw [hp, if_neg Bool.false_ne_true]
        refine con_of_body Tryz.func92 rfl Tryz.call92 (by rw [Tryz.ntmps92]; simp) ?_
        rw [Tryz.ntmps92, Tryz.results92]
        have F := And.intro chAV.eq_1 <| And.intro stAV.eq_1 <| And.intro q0 <| And.intro g0 <| And.intro hs <| hp2
        repeat (first | refine st ?_ | refine cC f0 ?_)
        refine awp_loopH (D := Nat) (fun j vs => [(1, .ref 9 [tabCells c] 0 0), (3, .loc 3 (vs 3) 0 0), (11, I (sumG (fun k => cntN c k) (K.take j) : Nat)), (45, .row 16 (vs 16)), (46, I K.length), (47, I j)]) (fun _ _ => [(3, ⟨5, [chAV c], 26, false⟩), (16, ⟨1, K.map natAV, 3, true⟩)]) (fun j _ _ => j ≤ K.length) (fun j => K.length - j) 0 ?_ ?_ ?_ ?_
        · exact Nat.zero_le _
        · have z0 : sumG (fun k => cntN c k) [] = 0 := rfl
          have F := z0
          (simp only [go_sem, F])
        · have F := chAV.eq_1
          (simp only [go_sem, F])
          try rfl
        rintro j ws esc hj
        by_cases hlt : j < K.length
        · obtain ⟨k, hk⟩ : ∃ k, K[j]? = some k := ⟨K[j], List.getElem?_eq_getElem hlt⟩
          have g1 := nlt hlt
          have g2 := wrap_succ hlt (by omega)
          have f1 := hx0 j k hk
          have f2 := sum29_con env (sumG (fun k => cntN c k) (K.take j)) (cntN c k) (sumG_le _ _ (by omega)) (hx1 j k hk)
          have hn := sum_more (g := fun k => cntN c k) hk
          have F := And.intro chAV.eq_1 <| And.intro natAV.eq_1 <| And.intro g1 <| And.intro g2 <| hk
          repeat (first | refine st ?_ | refine cC f1 ?_ | refine cC f2 ?_)
          refine ⟨j + 1, hlt, ?_, ?_, by omega⟩
          · have F := hn
            (simp only [go_sem, F])
          · have F := chAV.eq_1
            (simp only [go_sem, F])
        · obtain rfl : j = K.length := by omega
          have g1 : ¬ (K.length : Int) < (K.length : Int) := by omega
          have hta : K.take K.length = K := List.take_length
          have F := And.intro g1 <| hta
          repeat refine st ?_
          exact aR
      | true =>
        rw [hp2] at hp
        rw [hp, if_pos rfl]
        refine con_of_body Tryz.func92 rfl Tryz.call92 (by rw [Tryz.ntmps92]; simp) ?_
        rw [Tryz.ntmps92, Tryz.results92]
        have F := And.intro chAV.eq_1 <| And.intro stAV.eq_1 <| And.intro q0 <| And.intro g0 <| And.intro hs <| hp2
        repeat (first | refine st ?_ | refine cC f0 ?_)
        refine awp_loopH (D := Nat) (fun j vs => [(1, .ref 9 [tabCells c] 0 0), (3, .loc 3 (vs 3) 0 0), (8, I (mulG (fun k => cntN c k) (K.take j) : Nat)), (31, .row 16 (vs 16)), (32, I K.length), (33, I j)]) (fun _ _ => [(3, ⟨5, [chAV c], 26, false⟩), (16, ⟨1, K.map natAV, 3, true⟩)]) (fun j _ _ => j ≤ K.length) (fun j => K.length - j) 0 ?_ ?_ ?_ ?_
        · exact Nat.zero_le _
        · have z0 : mulG (fun k => cntN c k) [] = 1 := rfl
          have F := z0
          (simp only [go_sem, F])
        · have F := chAV.eq_1
          (simp only [go_sem, F])
          try rfl
        rintro j ws esc hj
        by_cases hlt : j < K.length
        · obtain ⟨k, hk⟩ : ∃ k, K[j]? = some k := ⟨K[j], List.getElem?_eq_getElem hlt⟩
          have g1 := nlt hlt
          have g2 := wrap_succ hlt (by omega)
          have f1 := hx0 j k hk
          have f2 := prod29_con env (mulG (fun k => cntN c k) (K.take j)) (cntN c k) (mulG_le _ _ (by omega)) (hx1 j k hk)
          have hn := mul_more (g := fun k => cntN c k) hk
          have F := And.intro chAV.eq_1 <| And.intro natAV.eq_1 <| And.intro g1 <| And.intro g2 <| hk
          repeat (first | refine st ?_ | refine cC f1 ?_ | refine cC f2 ?_)
          refine ⟨j + 1, hlt, ?_, ?_, by omega⟩
          · have F := hn
            (simp only [go_sem, F])
          · have F := chAV.eq_1
            (simp only [go_sem, F])
        · obtain rfl : j = K.length := by omega
          have g1 : ¬ (K.length : Int) < (K.length : Int) := by omega
          have hta : K.take K.length = K := List.take_length
          have F := And.intro g1 <| hta
          repeat refine st ?_
          exact aR
theorem countAll_con (env : Env) (c : ChD) (h : Full c) (hsm : Small c) : Con Tryz.prog env 46 [tabAV c] (I (cntN c (-1) : Nat)) := by
  have hlen := h.few
  have f0 := tabChart_con env c hsm
  have f1 := count_con env c h 40 (-1) (by omega) (by omega) (by omega)
  unfold tabAV at f0 f1 ⊢
  refine con_of_body Tryz.func46 rfl Tryz.call46 (by rw [Tryz.ntmps46]; simp) ?_
  rw [Tryz.ntmps46, Tryz.results46]
  have F := chAV.eq_1
  repeat (first | refine st ?_ | refine cC f0 ?_ | refine cC f1 ?_)
  exact aR
def wake29D : ChD := ⟨[99], 0, [], [⟨[97], 1, -1, 1, [], []⟩, ⟨[98], 1, 0, -1, [], []⟩, ⟨[100], 1, 0, -1, [], []⟩], []⟩
def wake29AV : List AV := [Sg [99], I 0, nilS, .seq 6 [[Sg [97], I 1, I (-1), I 1, nilS, nilS], [Sg [98], I 1, I 0, I (-1), nilS, nilS], [Sg [100], I 1, I 0, I (-1), nilS, nilS]], nilS]
theorem st_str (n : List UInt8) (k p i : Int) : Strs [Sg n, I k, I p, I i, nilS, nilS] (stAV ⟨n, k, p, i, [], []⟩) := .cons (.refl _) (.cons (.refl _) (.cons (.refl _) (.cons (.refl _) (.cons (.nil 4) (.cons (.nil 4) .nil)))))
theorem wake29_str : Strs [.agg wake29AV] [.agg (chAV wake29D)] := by
  refine .one (.agg (.cons (.refl _) (.cons (.refl _) (.cons (.nil 2) (.cons (.seqs ?_) (.cons (.nil 5) .nil))))))
  exact .cons (st_str ..) (.cons (st_str ..) (.cons (st_str ..) .nil))
theorem wake29_few : few_ch wake29D := by simp [few_ch, few_st, few_tr, wake29D, maxLen]
theorem wake29_chk : chk wake29D = (0, -1) := by decide +kernel
theorem awake29_con (env : Env) (a1 a8 : Addr) (he : ChEnv env a1 a8) (hT : ∀ W, env.inv W → TabAt W) : Con Tryz.prog env 39 [] (B true) := by
  have h0 : (chk wake29D).1 = 0 := by rw [wake29_chk]
  have h := full_of h0
  have hsm := small_of h0
  have f0 := (table_con env a1 a8 he hT wake29D wake29_chk wake29_few).args wake29_str
  have f1 := first29_con env wake29D h
  rw [show riseL wake29D (tbegL wake29D (-1)) = [0, 1] by decide +kernel] at f1
  have f2 := check29_con env a1 a8 he wake29D h hsm (zL [0, 1]) (by decide) (by decide)
  rw [chkE_ok (show lgChk wake29D (zL [0, 1]) = (0, -1) by decide +kernel)] at f2
  have f3 := countAll_con env wake29D h hsm
  rw [show cntN wake29D (-1) = 2 by decide +kernel] at f3
  change Con _ _ _ _ (.tuple [.seq 1 [[I 0], [I 1]], nilE]) at f1
  change Con _ _ _ [_, .seq 1 [[I 0], [I 1]]] _ at f2
  change Con _ _ _ _ (I 2) at f3
  unfold wake29AV at f0
  unfold tabAV at f0 f1 f2 f3
  generalize tabCells wake29D = T at *
  refine con_of_body Tryz.func39 rfl Tryz.call39 (by rw [Tryz.ntmps39]; simp) ?_
  rw [Tryz.ntmps39, Tryz.results39]
  repeat (first | refine st0 ?_ | refine cC0 f0 ?_ | refine cC0 f1 ?_ | refine cC0 f2 ?_ | refine cC0 f3 ?_)
  exact aR0
theorem rise_first {c : ChD} (h : Full c) : riseL c (tbegL c (-1)) = firstL c := by
  obtain ⟨s, hs, hini, _⟩ := h.topS
  have hi := (List.getElem?_eq_some_iff.1 hs).1
  have hz : inZ c c.initial = true := by rw [hini]; exact inZ_nat.2 hi
  have hb : tbegL c (-1) = sbL c (iniN c) := by unfold tbegL; simp only [if_true]; rw [hz, if_pos rfl]; rfl
  rw [hb]
  unfold riseL firstL
  apply List.filter_congr
  intro k _
  rw [Bool.eq_iff_iff, inL_mem, decide_eq_true_iff]
theorem first_len (c : ChD) (l : List Nat) : (riseL c l).length ≤ c.states.length := by
  unfold riseL
  exact Nat.le_trans (List.length_filter_le ..) (by simp)
theorem zL_ge (l : List Nat) : ∀ x ∈ zL l, -1 ≤ x := fun x hx => by
  obtain ⟨k, _, rfl⟩ := List.mem_map.1 hx
  omega
theorem lawLegalFirst_con (env : Env) (a1 a8 : Addr) (he : ChEnv env a1 a8) (hT : ∀ W, env.inv W → TabAt W) (c : ChD) (hcf : few_ch c) : Con Tryz.prog env 8 [.agg (chAV c)] (B true) := by
  have fa := awake29_con env a1 a8 he hT
  have fr := rests29_con env c
  cases hg : goodB c with
  | false =>
    rw [hg] at fr
    have fm := made29_none env c hg
    refine con_of_body Tryz.func8 rfl Tryz.call8 (by rw [Tryz.ntmps8]; simp) ?_
    rw [Tryz.ntmps8, Tryz.results8]
    have F := chAV.eq_1
    repeat (first | refine st ?_ | refine cC fm ?_ | refine cC fr ?_ | refine cC fa ?_)
    exact aR
  | true =>
    have h := good_full hg
    have hlen := h.few
    have hsm := small_of (good_chk hg)
    have fm := made29_con env a1 a8 he hT c hcf hg
    have f1 := first29_con env c h
    have f2 := rFirst29_con env c h
    have hl := first_len c (tbegL c (-1))
    have hB : lgB c (zL (riseL c (tbegL c (-1)))) = true := by rw [rise_first h]; exact first_legal h
    have f3 := sameInts_con env (riseL c (tbegL c (-1))) (riseL c (tbegL c (-1))) (by omega)
    rw [decide_eq_true rfl] at f3
    have f4 := rLegal_con env c h (zL (riseL c (tbegL c (-1)))) (by rw [zL_len]; omega) (zL_ge _)
    have f5 := check29_con env a1 a8 he c h hsm (zL (riseL c (tbegL c (-1)))) (by rw [zL_len]; omega) (zL_ge _)
    unfold chkE at f5
    rw [if_pos hB] at f5
    rw [hB] at f4
    rw [zL_int] at f4 f5
    unfold tabAV at fm f1 f5
    try clear hB hl
    generalize riseL c (tbegL c (-1)) = R at *
    refine con_of_body Tryz.func8 rfl Tryz.call8 (by rw [Tryz.ntmps8]; simp) ?_
    rw [Tryz.ntmps8, Tryz.results8]
    have F := chAV.eq_1
    repeat (first | refine st ?_ | refine cC fm ?_ | refine cC fr ?_ | refine cC fa ?_ | refine cC f1 ?_ | refine cC f2 ?_ | refine cC f3 ?_ | refine cC f4 ?_ | refine cC f5 ?_)
    exact aR
end Go.Proofs.YthffdneigmbgfaaGreatDoor
set_option linter.unusedSimpArgs false
namespace Go.Proofs.YthffdneigmbgfaaGreatDoor
open Go.RowKit Go.ChangeShapes
theorem laid_first {W : World} (h : laidMetH Tryz.prog [("math/bits.deBruijn32tab", Rows.laid_math_bits_deBruijn32tab), ("scrinium/api.ErrForm", Rows.laid_scrinium_api_ErrForm), ("scrinium/api.ErrState", Rows.laid_scrinium_api_ErrState), ("scrinium/api.ErrLong", Rows.laid_scrinium_api_ErrLong)] W) : ∃ a1 a8, TbW W a1 a8 := by
  rw [MakeChecks.laidMetH_plain _ _ _ (by kernel_rfl)] at h
  obtain ⟨ps, hv, hnd, hrows⟩ := h
  obtain ⟨g0, t0, cs0, f0, p0, q0, hg0, ht0, hv0, hd0, hrest, rfl⟩ := hv
  have hT := tab_of hg0 ht0 hv0 hd0
  obtain ⟨adl, h1, h2, h3⟩ := laid_list (nm := "*errors.errorString") Tryz.underlying55 Tryz.row160 Tryz.underlying226 Tryz.underlying246 rfl rfl Tryz.underlying9 (by kernel_rfl) (by kernel_rfl)
    [("scrinium/api.ErrForm", [102, 111, 114, 109]), ("scrinium/api.ErrState", [115, 116, 97, 116, 101]), ("scrinium/api.ErrLong", [108, 111, 110, 103])] [2, 0, 7] q0 hrest (by kernel_rfl) (by
      intro g hg
      simp at hg
      rcases hg with rfl | rfl | rfl <;> kernel_rfl) (fun b off hh => hrows b off (List.mem_append_right _ hh))
  match adl, h1 with
  | [a1, a7, a8], _ => exact ⟨a1, a8, h2 0 _ _ rfl rfl, h2 2 _ _ rfl rfl, hT⟩
theorem laid_tab9 {W : World} (h : laidMetH Tryz.prog [("math/bits.deBruijn32tab", Rows.laid_math_bits_deBruijn32tab), ("scrinium/api.ErrForm", Rows.laid_scrinium_api_ErrForm), ("scrinium/api.ErrRange", Rows.laid_scrinium_api_ErrRange), ("scrinium/api.ErrFull", Rows.laid_scrinium_api_ErrFull), ("scrinium/api.ErrNone", Rows.laid_scrinium_api_ErrNone), ("scrinium/api.ErrCorrupt", Rows.laid_scrinium_api_ErrCorrupt), ("scrinium/api.ErrFuel", Rows.laid_scrinium_api_ErrFuel), ("scrinium/api.ErrState", Rows.laid_scrinium_api_ErrState), ("scrinium/api.ErrLong", Rows.laid_scrinium_api_ErrLong), ("scrinium/api.ErrTwice", Rows.laid_scrinium_api_ErrTwice)] W) : (∃ ad, Sents W ad) ∧ TabAt W := by
  rw [MakeChecks.laidMetH_plain _ _ _ (by kernel_rfl)] at h
  obtain ⟨ps, hv, hnd, hrows⟩ := h
  obtain ⟨g0, t0, cs0, f0, p0, q0, hg0, ht0, hv0, hd0, hrest, rfl⟩ := hv
  refine ⟨sents_of_nine ?_, tab_of hg0 ht0 hv0 hd0⟩
  rw [MakeChecks.laidMetH_plain _ _ _ (by kernel_rfl)]
  exact ⟨q0, hrest, (List.nodup_append.1 hnd).2.1, fun b off hh => hrows b off (List.mem_append_right _ hh)⟩
def lgMore : More := ⟨fun w => TabAt w, fun _ _ h hb => TabAt.below h hb⟩
theorem lgEnv_ch (ad : Nat → Addr) : ChEnv (errEnv ad lgMore) (ad 1) (ad 8) := ⟨rfl, rfl⟩
theorem lgEnv_tab (ad : Nat → Addr) : ∀ W, (errEnv ad lgMore).inv W → TabAt W := fun _ h => h.2
end Go.Proofs.YthffdneigmbgfaaGreatDoor
