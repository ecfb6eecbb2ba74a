/- The law LegalCounts. -/
import Derived.Test.YthffdneigmbgfaaGreatDoorG1
import Derived.Test.YthffdneigmbgfaaGreatDoorG5
import Derived.Test.YthffdneigmbgfaaGreatDoorM7
import Derived.Test.YthffdneigmbgfaaGreatDoorG3
set_option linter.unusedSimpArgs false
namespace Go.Proofs.YthffdneigmbgfaaGreatDoor
open Go.RowKit
set_option maxRecDepth 100000
set_option maxHeartbeats 8000000
theorem rNth29_con (env : Env) (c : ChD) (h : Full c) : ∀ (f : Nat) (i : Int) (n : Nat), -1 ≤ i → i < (c.states.length : Int) → (c.states.length : Int) ≤ i + f → n < cntN c i → cntN c i < 2147483647 → Con Tryz.prog env 49 [.agg (chAV c), I i, I n] (.own 3 1 ((nthF c f i n).map natAV))
  | 0, i, n, h1, h2, h3, h4, h5 => by omega
  | f + 1, i, n, h1, h2, h3, h4, h5 => by
    have hlen := h.few
    have f0 := rKids_con env c i true (by omega)
    have hKl := kids_few h.toRight i true
    have hfew := nthR_few h.toRight (f := f + 1) h1 (by omega) h4 h5
    rw [nthR_len] at hfew
    have hcl : ∀ k ∈ kidsL c i true, 1 ≤ cntN c k ∧ cntN c k < 2147483647 := fun k hk => by
      have := cnt_less h.toRight h1 h5 hk
      have := (cnt_kid h.toRight hk h1).1
      omega
    have fk : ∀ (j k d : Nat), (kidsL c i true)[j]? = some k → d < cntN c k → Con Tryz.prog env 49 [.agg (chAV c), I k, I d] (.own 3 1 ((nthF c f k d).map natAV)) := fun j k d hj hd => by
      have hk := List.mem_of_getElem? hj
      have := kid_gt h.toRight (kid_real hk).1
      exact rNth29_con env c h f k d (by omega) (by omega) (by omega) hd (hcl k hk).2
    have fc : ∀ (j k : Nat), (kidsL c i true)[j]? = some k → Con Tryz.prog env 44 [.agg (chAV c), I k] (I (cntN c k : Nat)) := fun j k hj => by
      have hk := List.mem_of_getElem? hj
      have := kid_gt h.toRight (kid_real hk).1
      exact rCount_con env c h 40 k (by omega) (by omega) (by omega)
    have hcj : ∀ (j k : Nat), (kidsL c i true)[j]? = some k → 1 ≤ cntN c k ∧ cntN c k < 2147483647 := fun j k hj => hcl k (List.mem_of_getElem? hj)
    cases hp : parB c i with
    | true =>
      have hall := par_all (f := f) (n := n) hp
      have hst := fun (j k : Nat) (hk : (kidsL c i true)[j]? = some k) => par_at (f := f) (n := n) hp hk
      have hprod := cnt_par h.toRight h1 hp h5
      have hsub : ∀ a t, prodN (fun k => cntN c k) (((kidsL c i true).drop a).take t) < 2147483647 := fun a t => by
        have := prod_sub (g := fun k : Nat => cntN c k) (fun k hk => (hcl k hk).1) a t
        omega
      have hpos : ∀ a, 1 ≤ prodN (fun k => cntN c k) ((kidsL c i true).drop a) := fun a => prod_pos fun k hk => (hcl k (List.mem_of_mem_drop hk)).1
      have hmono : ∀ j, (((parD (fun k => cntN c k) (kidsL c i true) n).1.take j).flatMap (fun p => p.1 :: nthF c f p.1 p.2)).length ≤ 32 := fun j => by
        have e : nthF c (f + 1) i n = ((parD (fun k => cntN c k) (kidsL c i true) n).1.take j).flatMap (fun p => p.1 :: nthF c f p.1 p.2) ++ ((parD (fun k => cntN c k) (kidsL c i true) n).1.drop j).flatMap (fun p => p.1 :: nthF c f p.1 p.2) := by
          rw [← List.flatMap_append, List.take_append_drop]
          conv => lhs; unfold nthF
          rw [if_pos hp]
        rw [e, List.length_append] at hfew
        omega
      rcases in_cases h1 h2 with ⟨rfl, hp2⟩ | ⟨m, s, rfl, hs, hp2⟩
      · rw [hp2] at hp; cases hp
      rw [hp] at hp2
      rw [← hall] at hfew ⊢
      try clear hcl hprod hall
      generalize (parD (fun k => cntN c k) (kidsL c m true) n).1 = PD at *
      generalize kidsL c m true = K at *
      have g0 : ((m : Nat) : Int) < (c.states.length : Int) := h2
      have b2 : (s.kind == 2) = true := hp2.symm
      refine con_of_body Tryz.func49 rfl Tryz.call49 (by rw [Tryz.ntmps49]; simp) ?_
      rw [Tryz.ntmps49, Tryz.results49]
      have F := And.intro chAV.eq_1 <| And.intro stAV.eq_1 <| And.intro g0 <| And.intro hs <| b2
      repeat (first | refine st ?_ | refine cC f0 ?_)
      refine awp_loopH (D := Nat) (fun j vs => [(2, I n), (3, .loc 3 (vs 3) 0 0), (7, .row 16 (vs 16)), (8, B true), (9, .row 28 (vs 28)), (10, I j)]) (fun j _ => [(3, ⟨5, [chAV c], 26, false⟩), (16, ⟨1, K.map natAV, 3, true⟩), (28, ⟨1, ((PD.take j).flatMap fun p => p.1 :: nthF c f p.1 p.2).map natAV, 3, true⟩)]) (fun j _ esc => j ≤ K.length ∧ esc 28 = false) (fun j => K.length - j) 0 ?_ ?_ ?_ ?_
      · exact ⟨Nat.zero_le _, rfl⟩
      · (simp only [go_sem, F])
      · have F := chAV.eq_1
        (simp only [go_sem, List.flatMap_nil, F])
        try rfl
      rintro j ws esc ⟨hj, e0⟩
      by_cases hlt : j < K.length
      · obtain ⟨k, hk⟩ : ∃ k, K[j]? = some k := ⟨K[j], List.getElem?_eq_getElem hlt⟩
        obtain ⟨c1, c2⟩ := hcj _ k hk
        have g1 := nlt hlt
        have g2 := wrap_succ hlt (by omega)
        have f1 := fc _ k hk
        have hst1 := hst j k hk
        have hl1 := hmono (j + 1)
        rw [hst1, List.length_append, List.length_cons] at hl1
        generalize hA : (PD.take j).flatMap (fun p => p.1 :: nthF c f p.1 p.2) = A at *
        have F := And.intro chAV.eq_1 <| And.intro natAV.eq_1 <| And.intro hk <| And.intro g1 <| g2
        repeat (first | refine st ?_ | refine cC f1 ?_)
        refine awp_loopH (D := Nat) (fun t vs => [(2, I n), (3, .loc 3 (vs 3) 0 0), (7, .row 16 (vs 16)), (8, B true), (9, .row 28 (vs 28)), (10, I j), (11, I (cntN c k : Nat)), (12, I (prodN (fun k => cntN c k) ((K.drop (j + 1)).take t) : Nat)), (13, I ((j + 1 + t : Nat)))]) (fun t _ => [(3, ⟨5, [chAV c], 26, false⟩), (16, ⟨1, K.map natAV, 3, true⟩), (28, ⟨1, A.map natAV, 3, true⟩)]) (fun t _ esc => j + 1 + t ≤ K.length ∧ esc 28 = false) (fun t => K.length - (j + 1 + t)) 0 ?_ ?_ ?_ ?_
        · exact ⟨hlt, by simp only [go_sem, e0]⟩
        · have z0 : prodN (fun k => cntN c k) [] = 1 := rfl
          have F := z0
          (simp only [go_sem, F])
        · have F := chAV.eq_1
          (simp only [go_sem, F])
          try rfl
        try clear ws esc e0
        rintro t ws esc ⟨ht, e0⟩
        by_cases hlt2 : j + 1 + t < K.length
        · obtain ⟨y, hy⟩ : ∃ y, K[j + 1 + t]? = some y := ⟨K[j + 1 + t], List.getElem?_eq_getElem hlt2⟩
          have g3 := nlt hlt2
          have g4 := wrap_succ hlt2 (by omega)
          have f2 := fc _ y hy
          have hpm := prod_more (g := fun k : Nat => cntN c k) hy
          have hb1 := hsub (j + 1) (t + 1)
          have w1 : IntKind.i64.wrap (((prodN (fun k => cntN c k) ((K.drop (j + 1)).take t) : Nat) : Int) * ((cntN c y : Nat) : Int)) = ((prodN (fun k => cntN c k) ((K.drop (j + 1)).take (t + 1)) : Nat) : Int) := by
            rw [← Int.natCast_mul, show prodN (fun k => cntN c k) ((K.drop (j + 1)).take t) * cntN c y = prodN (fun k => cntN c k) ((K.drop (j + 1)).take (t + 1)) from hpm.symm]
            exact wrap_in (by omega) (by omega)
          have F := And.intro chAV.eq_1 <| And.intro natAV.eq_1 <| And.intro hy <| And.intro g3 <| And.intro g4 <| And.intro w1 <| e0
          repeat (first | refine st ?_ | refine cC f2 ?_)
          refine ⟨t + 1, ⟨by omega, by simp only [go_sem, e0]⟩, ?_, ?_, by omega⟩
          · have g5 : j + 1 + (t + 1) = j + 1 + t + 1 := by omega
            have F := g5
            (simp only [go_sem, F])
          · have F := chAV.eq_1
            (simp only [go_sem, F])
        · have htt : j + 1 + t = K.length := by omega
          have hR : prodN (fun k => cntN c k) ((K.drop (j + 1)).take t) = prodN (fun k => cntN c k) (K.drop (j + 1)) := by rw [List.take_of_length_le (by rw [List.length_drop]; omega)]
          have g3 : ¬ ((j + 1 + t : Nat) : Int) < (K.length : Int) := by omega
          have hR1 := hpos (j + 1)
          have hR2 := hsub (j + 1) t
          rw [hR] at hR2
          generalize prodN (fun k => cntN c k) (K.drop (j + 1)) = R at *
          have m1 : ¬ ((R : Nat) : Int) = 0 := by omega
          have m0 : ¬ ((cntN c k : Nat) : Int) = 0 := by omega
          have t5 := wrap_tdiv n R (by omega)
          have t6 := nat_tmod (n / R) (cntN c k)
          have f2 := fk _ k (n / R % cntN c k) hk (Nat.mod_lt _ (by omega))
          have hf1 : Fits (A.length + 1) 8 := fits_small (by omega) (by omega)
          have hf2 : Fits (A.length + 1 + (nthF c f k (n / R % cntN c k)).length) 8 := fits_small (by omega) (by omega)
          have F := And.intro chAV.eq_1 <| And.intro natAV.eq_1 <| And.intro hk <| And.intro g1 <| And.intro g2 <| And.intro g3 <| And.intro hR <| And.intro m0 <| And.intro m1 <| And.intro t5 <| And.intro t6 <| And.intro hf1 <| And.intro hf2 <| e0
          repeat (first | refine st ?_ | refine cC f2 ?_)
          refine ⟨j + 1, ⟨hlt, by simp only [go_sem, e0]⟩, ?_, ?_, by omega⟩
          · (simp only [go_sem, F])
          · have F := And.intro chAV.eq_1 <| And.intro natAV.eq_1 <| hst1
            (simp only [go_sem, List.map_append, List.append_assoc, F])
      · obtain rfl : j = K.length := by omega
        have g1 : ¬ (K.length : Int) < (K.length : Int) := by omega
        have F := And.intro chAV.eq_1 <| And.intro g1 <| e0
        repeat refine st ?_
        exact aR
    | false =>
      obtain ⟨_, hF⟩ := nth_seq (f := f) (n := n) hp
      rw [hF] at hfew ⊢
      have hx : ∀ j k r : Nat, (kidsL c i true)[j]? = some k → seqD (fun k => cntN c k) (kidsL c i true) n = seqD (fun k => cntN c k) ((kidsL c i true).drop j) r → r < cntN c k → seqD (fun k => cntN c k) (kidsL c i true) n = some (k, r) := fun j k r hk hr hlt => by rw [hr, seq_yes hk hlt]
      try clear hF hcl
      generalize kidsL c i true = K at *
      have gs : (i = -1 ∧ True) ∨ ∃ (m : Nat) (s : StD), i = m ∧ c.states[m]? = some s ∧ (s.kind == 2) = false := by
        rcases in_cases h1 h2 with ⟨e, _⟩ | ⟨m, s, e, hs, hp2⟩
        · exact .inl ⟨e, trivial⟩
        · exact .inr ⟨m, s, e, hs, by rw [← hp2, hp]⟩
      rcases gs with ⟨rfl, b2⟩ | ⟨m, s, rfl, hs, b2⟩
      · refine con_of_body Tryz.func49 rfl Tryz.call49 (by rw [Tryz.ntmps49]; simp) ?_
        rw [Tryz.ntmps49, Tryz.results49]
        have F := chAV.eq_1
        repeat (first | refine st ?_ | refine cC f0 ?_)
        refine awp_loopH (D := Nat × Nat) (fun d vs => [(2, I (d.2 : Nat)), (3, .loc 3 (vs 3) 0 0), (7, .row 16 (vs 16)), (8, B false), (9, .row 28 (vs 28)), (10, I (d.1 : Nat))]) (fun _ _ => [(3, ⟨5, [chAV c], 26, false⟩), (16, ⟨1, K.map natAV, 3, true⟩), (28, ⟨1, [], 3, true⟩)]) (fun d _ esc => d.1 ≤ K.length ∧ d.2 ≤ n ∧ seqD (fun k => cntN c k) K n = seqD (fun k => cntN c k) (K.drop d.1) d.2 ∧ esc 28 = false) (fun d => K.length - d.1) (0, n) ?_ ?_ ?_ ?_
        · exact ⟨Nat.zero_le _, Nat.le_refl _, rfl, rfl⟩
        · (simp only [go_sem, F])
        · have F := chAV.eq_1
          (simp only [go_sem, F])
          try rfl
        rintro ⟨j, r⟩ ws esc ⟨hj, hr, hseq, e0⟩
        simp only at hj hr hseq ⊢
        by_cases hlt : j < K.length
        · obtain ⟨k, hk⟩ : ∃ k, K[j]? = some k := ⟨K[j], List.getElem?_eq_getElem hlt⟩
          obtain ⟨c1, c2⟩ := hcj _ k hk
          have g1 := nlt hlt
          have g2 := wrap_succ hlt (by omega)
          have f1 := fc _ k hk
          by_cases hrk : r < cntN c k
          · have g3 := nlt hrk
            have f2 := fk _ k r hk hrk
            have hs1 := hx j k r hk hseq hrk
            rw [hs1] at hfew ⊢
            simp only [List.length_cons] at hfew
            have hf1 : Fits (1 + (nthF c f k r).length) 8 := fits_small (by omega) (by omega)
            have hf2 : Fits (0 + 1 + (nthF c f k r).length) 8 := fits_small (by omega) (by omega)
            have F := And.intro chAV.eq_1 <| And.intro natAV.eq_1 <| And.intro hk <| And.intro g1 <| And.intro g3 <| And.intro hf1 <| hf2
            repeat (first | refine st ?_ | refine cC f1 ?_ | refine cC f2 ?_)
            exact aR
          · have g3 : ¬ ((r : Nat) : Int) < ((cntN c k : Nat) : Int) := by omega
            have g4 : IntKind.i64.wrap (((r : Nat) : Int) - ((cntN c k : Nat) : Int)) = ((r - cntN c k : Nat) : Int) := by rw [wrap_in (by omega) (by omega)]; omega
            have F := And.intro chAV.eq_1 <| And.intro natAV.eq_1 <| And.intro hk <| And.intro g1 <| And.intro g2 <| And.intro g3 <| And.intro g4 <| e0
            repeat (first | refine st ?_ | refine cC f1 ?_)
            refine ⟨(j + 1, r - cntN c k), ⟨hlt, by show r - cntN c k ≤ n; omega, by rw [hseq, seq_no hk hrk], by simp only [go_sem, e0]⟩, ?_, ?_, by show K.length - (j + 1) < K.length - j; omega⟩
            · (simp only [go_sem, F])
            · have F := chAV.eq_1
              (simp only [go_sem, F])
        · obtain rfl : j = K.length := by omega
          have g1 : ¬ (K.length : Int) < (K.length : Int) := by omega
          rw [hseq, seq_end]
          have F := And.intro g1 <| e0
          repeat refine st ?_
          exact aR
      · have g0 : ((m : Nat) : Int) < (c.states.length : Int) := h2
        refine con_of_body Tryz.func49 rfl Tryz.call49 (by rw [Tryz.ntmps49]; simp) ?_
        rw [Tryz.ntmps49, Tryz.results49]
        have F := And.intro chAV.eq_1 <| And.intro stAV.eq_1 <| And.intro g0 <| And.intro hs <| b2
        repeat (first | refine st ?_ | refine cC f0 ?_)
        refine awp_loopH (D := Nat × Nat) (fun d vs => [(2, I (d.2 : Nat)), (3, .loc 3 (vs 3) 0 0), (7, .row 16 (vs 16)), (8, B false), (9, .row 28 (vs 28)), (10, I (d.1 : Nat))]) (fun _ _ => [(3, ⟨5, [chAV c], 26, false⟩), (16, ⟨1, K.map natAV, 3, true⟩), (28, ⟨1, [], 3, true⟩)]) (fun d _ esc => d.1 ≤ K.length ∧ d.2 ≤ n ∧ seqD (fun k => cntN c k) K n = seqD (fun k => cntN c k) (K.drop d.1) d.2 ∧ esc 28 = false) (fun d => K.length - d.1) (0, n) ?_ ?_ ?_ ?_
        · exact ⟨Nat.zero_le _, Nat.le_refl _, rfl, rfl⟩
        · (simp only [go_sem, F])
        · have F := chAV.eq_1
          (simp only [go_sem, F])
          try rfl
        rintro ⟨j, r⟩ ws esc ⟨hj, hr, hseq, e0⟩
        simp only at hj hr hseq ⊢
        by_cases hlt : j < K.length
        · obtain ⟨k, hk⟩ : ∃ k, K[j]? = some k := ⟨K[j], List.getElem?_eq_getElem hlt⟩
          obtain ⟨c1, c2⟩ := hcj _ k hk
          have g1 := nlt hlt
          have g2 := wrap_succ hlt (by omega)
          have f1 := fc _ k hk
          by_cases hrk : r < cntN c k
          · have g3 := nlt hrk
            have f2 := fk _ k r hk hrk
            have hs1 := hx j k r hk hseq hrk
            rw [hs1] at hfew ⊢
            simp only [List.length_cons] at hfew
            have hf1 : Fits (1 + (nthF c f k r).length) 8 := fits_small (by omega) (by omega)
            have hf2 : Fits (0 + 1 + (nthF c f k r).length) 8 := fits_small (by omega) (by omega)
            have F := And.intro chAV.eq_1 <| And.intro natAV.eq_1 <| And.intro hk <| And.intro g1 <| And.intro g3 <| And.intro hf1 <| hf2
            repeat (first | refine st ?_ | refine cC f1 ?_ | refine cC f2 ?_)
            exact aR
          · have g3 : ¬ ((r : Nat) : Int) < ((cntN c k : Nat) : Int) := by omega
            have g4 : IntKind.i64.wrap (((r : Nat) : Int) - ((cntN c k : Nat) : Int)) = ((r - cntN c k : Nat) : Int) := by rw [wrap_in (by omega) (by omega)]; omega
            have F := And.intro chAV.eq_1 <| And.intro natAV.eq_1 <| And.intro hk <| And.intro g1 <| And.intro g2 <| And.intro g3 <| And.intro g4 <| e0
            repeat (first | refine st ?_ | refine cC f1 ?_)
            refine ⟨(j + 1, r - cntN c k), ⟨hlt, by show r - cntN c k ≤ n; omega, by rw [hseq, seq_no hk hrk], by simp only [go_sem, e0]⟩, ?_, ?_, by show K.length - (j + 1) < K.length - j; omega⟩
            · (simp only [go_sem, F])
            · have F := chAV.eq_1
              (simp only [go_sem, F])
        · obtain rfl : j = K.length := by omega
          have g1 : ¬ (K.length : Int) < (K.length : Int) := by omega
          rw [hseq, seq_end]
          have F := And.intro g1 <| e0
          repeat refine st ?_
          exact aR
end Go.Proofs.YthffdneigmbgfaaGreatDoor
set_option linter.unusedSimpArgs false
namespace Go.Proofs.YthffdneigmbgfaaGreatDoor
open Go.RowKit
set_option maxRecDepth 100000
set_option maxHeartbeats 8000000
theorem tells29_con (ad : Nat → Addr) (mo : More) (k : Nat) (hk : 1 ≤ k ∧ k ≤ 9) (p : Int) : Con Tryz.prog (errEnv ad mo) 47 [errV p (sentV (ad k)), I k] (B true) := by
  have f0 := code_con ad mo k hk (I p)
  have b0 : (((k : Nat) : Int) == 0) = false := by simp; omega
  refine con_of_body Tryz.func47 rfl Tryz.call47 (by rw [Tryz.ntmps47]; simp) ?_
  rw [Tryz.ntmps47, Tryz.results47]
  have F := b0
  repeat (first | refine st ?_ | refine cC f0 ?_)
  exact aR
theorem rise_same {c : ChD} {a b : List Nat} (h : ∀ x, x ∈ a ↔ x ∈ b) : riseL c a = riseL c b := by
  unfold riseL
  apply List.filter_congr
  intro k _
  rw [Bool.eq_iff_iff, inL_mem, inL_mem]
  exact h k
theorem lawLegalCounts_con (ad : Nat → Addr) (c : ChD) (hcf : few_ch c) (x : Int) : Con Tryz.prog (errEnv ad lgMore) 9 [.agg (chAV c), I x] (B true) := by
  have he := lgEnv_ch ad
  have hT := lgEnv_tab ad
  have h2 : errEnv ad lgMore 1 = some (sentV (ad 2)) := rfl
  have ft := tells29_con ad lgMore 2 (by omega) (-1)
  generalize errEnv ad lgMore = env at *
  have fa := awake29_con env _ _ he hT
  have fr := rests29_con env c
  cases hg : goodB c with
  | false =>
    rw [hg] at fr
    have fm := made29_none env c hg
    refine con_of_body Tryz.func9 rfl Tryz.call9 (by rw [Tryz.ntmps9]; simp) ?_
    rw [Tryz.ntmps9, Tryz.results9]
    have F := chAV.eq_1
    repeat (first | refine st ?_ | refine cC fm ?_ | refine cC fr ?_ | refine cC fa ?_)
    exact aR
  | true =>
    have h := good_full hg
    have hlen := h.few
    have hsm := small_of (good_chk hg)
    have fm := made29_con env _ _ he hT c hcf hg
    have f1 := rCount_con env c h 40 (-1) (by omega) (by omega) (by omega)
    have f2 := countAll_con env c h hsm
    by_cases hb : x < 0 ∨ (cntN c (-1) : Int) ≤ x ∨ cntN c (-1) = 2147483647
    · have f3 := pNth_bad env _ h2 c h hsm x hb
      change Con _ _ _ [_, I 2] _ at ft
      unfold tabAV at fm f2 f3
      generalize cntN c (-1) = m at *
      by_cases e1 : x < 0
      · refine con_of_body Tryz.func9 rfl Tryz.call9 (by rw [Tryz.ntmps9]; simp) ?_
        rw [Tryz.ntmps9, Tryz.results9]
        have F := And.intro chAV.eq_1 <| e1
        repeat (first | refine st ?_ | refine cC fm ?_ | refine cC fr ?_ | refine cC fa ?_ | refine cC f1 ?_ | refine cC f2 ?_ | refine cC f3 ?_ | refine cC ft ?_)
        exact aR
      · by_cases e2 : (m : Int) ≤ x
        · refine con_of_body Tryz.func9 rfl Tryz.call9 (by rw [Tryz.ntmps9]; simp) ?_
          rw [Tryz.ntmps9, Tryz.results9]
          have F := And.intro chAV.eq_1 <| And.intro e1 <| e2
          repeat (first | refine st ?_ | refine cC fm ?_ | refine cC fr ?_ | refine cC fa ?_ | refine cC f1 ?_ | refine cC f2 ?_ | refine cC f3 ?_ | refine cC ft ?_)
          exact aR
        · have e3 : (((m : Nat) : Int) == 2147483647) = true := by simp; omega
          refine con_of_body Tryz.func9 rfl Tryz.call9 (by rw [Tryz.ntmps9]; simp) ?_
          rw [Tryz.ntmps9, Tryz.results9]
          have F := And.intro chAV.eq_1 <| And.intro e1 <| And.intro e2 <| e3
          repeat (first | refine st ?_ | refine cC fm ?_ | refine cC fr ?_ | refine cC fa ?_ | refine cC f1 ?_ | refine cC f2 ?_ | refine cC f3 ?_ | refine cC ft ?_)
          exact aR
    · obtain ⟨n, rfl⟩ := nat_of (show 0 ≤ x by omega)
      have hc := (cnt_ok h.toRight (i := -1) (by omega)).2
      have hn : n < cntN c (-1) := by omega
      have hc : cntN c (-1) < 2147483647 := by omega
      have f3 := pNth_ok env c h hsm n hn hc
      have hN := nth_ok h.toRight 40 (-1) n (by omega) (by omega) hn hc
      have hfew := nth_len hN
      have hRF : riseL c (nthR c 40 (-1) n) = riseL c (nthF c 40 (-1) n) := rise_same fun y => nthR_mem 40 (-1) n y
      rw [hRF] at f3
      have f4 := rNth29_con env c h 40 (-1) n (by omega) (by omega) (by omega) hn hc
      have f5 := rising_con env c (by omega) (nthF c 40 (-1) n) (by omega)
      have hl := first_len c (nthF c 40 (-1) n)
      have f6 := sameInts_con env (riseL c (nthF c 40 (-1) n)) (riseL c (nthF c 40 (-1) n)) (by omega)
      rw [decide_eq_true rfl] at f6
      have f7 := rLegal_con env c h (zL (riseL c (nthF c 40 (-1) n))) (by rw [zL_len]; omega) (zL_ge _)
      rw [nth_legal h hN, zL_int] at f7
      have e1 : ¬ ((n : Nat) : Int) < 0 := by omega
      have e2 : ¬ ((cntN c (-1) : Nat) : Int) ≤ (n : Int) := by omega
      have e3 : (((cntN c (-1) : Nat) : Int) == 2147483647) = false := by simp; omega
      unfold tabAV at fm f2 f3
      try clear hN hRF hfew
      generalize riseL c (nthF c 40 (-1) n) = R at *
      generalize nthF c 40 (-1) n = L at *
      generalize cntN c (-1) = m at *
      refine con_of_body Tryz.func9 rfl Tryz.call9 (by rw [Tryz.ntmps9]; simp) ?_
      rw [Tryz.ntmps9, Tryz.results9]
      have F := And.intro chAV.eq_1 <| And.intro e1 <| And.intro e2 <| e3
      repeat (first | refine st ?_ | refine cC fm ?_ | refine cC fr ?_ | refine cC fa ?_ | refine cC f1 ?_ | refine cC f2 ?_ | refine cC f3 ?_ | refine cC f4 ?_ | refine cC f5 ?_ | refine cC f6 ?_ | refine cC f7 ?_)
      exact aR
end Go.Proofs.YthffdneigmbgfaaGreatDoor
