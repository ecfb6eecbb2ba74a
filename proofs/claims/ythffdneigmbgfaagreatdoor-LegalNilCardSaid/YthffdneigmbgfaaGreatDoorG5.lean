/- Nth of package legal; the document's Count and Nth. -/
import Derived.Test.YthffdneigmbgfaaGreatDoorG1
import Derived.Test.YthffdneigmbgfaaGreatDoorM35
import Derived.Test.YthffdneigmbgfaaGreatDoorG3
import Derived.Test.YthffdneigmbgfaaGreatDoorM7
namespace Go.Proofs.YthffdneigmbgfaaGreatDoor
open Go.RowKit
theorem flat_perm {α β : Type} {f g : α → List β} : ∀ {l : List α}, (∀ a ∈ l, (f a).Perm (g a)) → (l.flatMap f).Perm (l.flatMap g)
  | [], _ => .refl _
  | a :: l, h => by
    rw [List.flatMap_cons, List.flatMap_cons]
    exact (h a (by simp)).append (flat_perm fun x hx => h x (List.mem_cons_of_mem _ hx))
theorem nthR_perm {c : ChD} : ∀ (f : Nat) (i : Int) (n : Nat), (nthR c f i n).Perm (nthF c f i n)
  | 0, _, _ => .refl _
  | f + 1, i, n => by
    unfold nthR nthF
    split
    · exact (flat_perm fun p _ => List.Perm.cons _ (nthR_perm f _ _)).trans ((List.reverse_perm _).flatMap_right _)
    · split
      · exact List.Perm.cons _ (nthR_perm f _ _)
      · exact .refl _
theorem nth_bound {c : ChD} {i : Int} {l : List Nat} (hl : Nth c i l) : ∀ x ∈ l, x < c.states.length := fun x hx => by
  obtain ⟨_, s, hs, _⟩ := hl.real x hx
  exact (List.getElem?_eq_some_iff.1 hs).1
theorem nth_len {c : ChD} {i : Int} {l : List Nat} (hl : Nth c i l) : l.length ≤ c.states.length := by
  have := hl.nodup.length_le_of_subset (l₂ := List.range c.states.length) fun x hx => List.mem_range.2 (nth_bound hl x hx)
  simpa using this
theorem nthR_few {c : ChD} (h : Right c) {f : Nat} {i : Int} {n : Nat} (hi : -1 ≤ i) (hf : (c.states.length : Int) ≤ i + f) (hn : n < cntN c i) (hc : cntN c i < 2147483647) : (nthR c f i n).length ≤ 32 := by
  have := nth_len (nth_ok h f i n hi hf hn hc)
  have hh := h.few
  rw [nthR_len]
  omega
theorem nth_par {c : ChD} {f : Nat} {i : Int} {n : Nat} (hp : parB c i = true) : ∃ (Q : Nat → Nat) (L : Nat → List Nat), Q (kidsL c i true).length = n ∧ L (kidsL c i true).length = [] ∧
    (∀ e k : Nat, (kidsL c i true)[e]? = some k → Q e = Q (e + 1) / cntN c k ∧ L e = L (e + 1) ++ k :: nthR c f k (Q (e + 1) % cntN c k)) ∧ L 0 = nthR c (f + 1) i n ∧ (∀ e, Q e ≤ n) ∧ ∀ e, e ≤ (kidsL c i true).length → (L e).length ≤ (nthR c (f + 1) i n).length := by
  have step : ∀ e k : Nat, (kidsL c i true)[e]? = some k → (parD (fun k => cntN c k) ((kidsL c i true).drop e) n).2 = (parD (fun k => cntN c k) ((kidsL c i true).drop (e + 1)) n).2 / cntN c k ∧
      (parD (fun k => cntN c k) ((kidsL c i true).drop e) n).1.reverse.flatMap (fun p => p.1 :: nthR c f p.1 p.2) = (parD (fun k => cntN c k) ((kidsL c i true).drop (e + 1)) n).1.reverse.flatMap (fun p => p.1 :: nthR c f p.1 p.2) ++ k :: nthR c f k ((parD (fun k => cntN c k) ((kidsL c i true).drop (e + 1)) n).2 % cntN c k) := fun e k hk => by
    obtain ⟨he, hk2⟩ := List.getElem?_eq_some_iff.1 hk
    rw [List.drop_eq_getElem_cons he, hk2]
    simp only [parD, List.reverse_cons, List.flatMap_append, List.flatMap_cons, List.flatMap_nil, List.append_nil, and_self]
  have h0 : (parD (fun k => cntN c k) ((kidsL c i true).drop 0) n).1.reverse.flatMap (fun p => p.1 :: nthR c f p.1 p.2) = nthR c (f + 1) i n := by
    conv => rhs; unfold nthR
    rw [if_pos hp, List.drop_zero]
  refine ⟨fun e => (parD (fun k => cntN c k) ((kidsL c i true).drop e) n).2, fun e => (parD (fun k => cntN c k) ((kidsL c i true).drop e) n).1.reverse.flatMap (fun p => p.1 :: nthR c f p.1 p.2), ?_, ?_, step, h0, fun e => ?_, fun e he => ?_⟩
  · simp only [List.drop_length, parD]
  · simp only [List.drop_length, parD]; rfl
  · simp only [parD_quot]
    exact Nat.div_le_self ..
  · rw [← h0]
    try clear h0
    induction e with
    | zero => exact Nat.le_refl _
    | succ e ih =>
      have := (step e _ (List.getElem?_eq_getElem (show e < (kidsL c i true).length by omega))).2
      refine Nat.le_trans ?_ (ih (by omega))
      show (List.flatMap _ _).length ≤ (List.flatMap _ _).length
      rw [this, List.length_append]
      omega
theorem prod_append (g : Nat → Nat) : ∀ (a b : List Nat), prodN g (a ++ b) = prodN g a * prodN g b
  | [], b => by simp [prodN]
  | x :: a, b => by simp only [List.cons_append, prodN, prod_append g a b, Nat.mul_assoc]
theorem prod_sub {g : Nat → Nat} {l : List Nat} (hg : ∀ k ∈ l, 1 ≤ g k) (a t : Nat) : prodN g ((l.drop a).take t) ≤ prodN g l := by
  have h1 : l = l.take a ++ ((l.drop a).take t ++ (l.drop a).drop t) := by rw [List.take_append_drop, List.take_append_drop]
  have e : prodN g l = prodN g (l.take a) * (prodN g ((l.drop a).take t) * prodN g ((l.drop a).drop t)) := by
    conv => lhs; rw [h1]
    rw [prod_append, prod_append]
  have p1 : 1 ≤ prodN g (l.take a) := prod_pos fun k hk => hg k (List.mem_of_mem_take hk)
  have p2 : 1 ≤ prodN g ((l.drop a).drop t) := prod_pos fun k hk => hg k (List.mem_of_mem_drop (List.mem_of_mem_drop hk))
  rw [e]
  exact Nat.le_trans (Nat.le_mul_of_pos_right _ p2) (Nat.le_mul_of_pos_left _ p1)
theorem prod_more {g : Nat → Nat} {l : List Nat} {a t y : Nat} (hy : l[a + t]? = some y) : prodN g ((l.drop a).take (t + 1)) = prodN g ((l.drop a).take t) * g y := by
  rw [List.take_add_one, List.getElem?_drop, hy, prod_append]
  simp [prodN]
theorem nth_seq {c : ChD} {f : Nat} {i : Int} {n : Nat} (hp : parB c i = false) : nthR c (f + 1) i n = (match seqD (fun k => cntN c k) (kidsL c i true) n with | some p => p.1 :: nthR c f p.1 p.2 | none => []) ∧ nthF c (f + 1) i n = (match seqD (fun k => cntN c k) (kidsL c i true) n with | some p => p.1 :: nthF c f p.1 p.2 | none => []) := by
  constructor
  · conv => lhs; unfold nthR
    rw [if_neg (by rw [hp]; simp)]
    rfl
  · conv => lhs; unfold nthF
    rw [if_neg (by rw [hp]; simp)]
    rfl
theorem seq_yes {m : Nat → Nat} {l : List Nat} {j k r : Nat} (hk : l[j]? = some k) (h : r < m k) : seqD m (l.drop j) r = some (k, r) := by
  obtain ⟨he, hk2⟩ := List.getElem?_eq_some_iff.1 hk
  rw [List.drop_eq_getElem_cons he, hk2]
  simp only [seqD, if_pos h]
theorem seq_no {m : Nat → Nat} {l : List Nat} {j k r : Nat} (hk : l[j]? = some k) (h : ¬ r < m k) : seqD m (l.drop j) r = seqD m (l.drop (j + 1)) (r - m k) := by
  obtain ⟨he, hk2⟩ := List.getElem?_eq_some_iff.1 hk
  rw [List.drop_eq_getElem_cons he, hk2]
  simp only [seqD, if_neg h]
theorem seq_end (m : Nat → Nat) (l : List Nat) (r : Nat) : seqD m (l.drop l.length) r = none := by rw [List.drop_length]; rfl
theorem par_at {c : ChD} {f : Nat} {i : Int} {n : Nat} (hp : parB c i = true) {j k : Nat} (hk : (kidsL c i true)[j]? = some k) :
    ((parD (fun k => cntN c k) (kidsL c i true) n).1.take (j + 1)).flatMap (fun p => p.1 :: nthF c f p.1 p.2) = ((parD (fun k => cntN c k) (kidsL c i true) n).1.take j).flatMap (fun p => p.1 :: nthF c f p.1 p.2) ++ k :: nthF c f k (n / prodN (fun k => cntN c k) ((kidsL c i true).drop (j + 1)) % cntN c k) := by
  have _u := hp
  rw [List.take_add_one, parD_at _ hk, List.flatMap_append]
  simp
theorem par_all {c : ChD} {f : Nat} {i : Int} {n : Nat} (hp : parB c i = true) : ((parD (fun k => cntN c k) (kidsL c i true) n).1.take (kidsL c i true).length).flatMap (fun p => p.1 :: nthF c f p.1 p.2) = nthF c (f + 1) i n := by
  conv => rhs; unfold nthF
  rw [if_pos hp, List.take_of_length_le (by rw [parD_len]; exact Nat.le_refl _)]
end Go.Proofs.YthffdneigmbgfaaGreatDoor
set_option linter.unusedSimpArgs false
namespace Go.Proofs.YthffdneigmbgfaaGreatDoor
open Go.RowKit
set_option maxRecDepth 100000
set_option maxHeartbeats 8000000
theorem nat_tmod (a b : Nat) : ((a : Nat) : Int).tmod (b : Nat) = ((a % b : Nat) : Int) := (Int.ofNat_tmod a b).symm
theorem wrap_tdiv (a b : Nat) (ha : a < 9223372036854775808) : IntKind.i64.wrap (((a : Nat) : Int).tdiv (b : Nat)) = ((a / b : Nat) : Int) := by
  rw [show ((a : Nat) : Int).tdiv (b : Nat) = ((a / b : Nat) : Int) from (Int.ofNat_tdiv a b).symm]
  have := Nat.div_le_self a b
  generalize a / b = q at *
  exact wrap_in (by omega) (by omega)
theorem wrap_nat {a : Nat} (h : a < 9223372036854775808) : IntKind.i64.wrap ((a : Nat) : Int) = (a : Int) := wrap_in (by omega) (by omega)
theorem nth29_con (env : Env) (c : ChD) (h : Full c) : ∀ (f : Nat) (i : Int) (n : Nat), -1 ≤ i → i < (c.states.length : Int) → (c.states.length : Int) ≤ i + f → n < cntN c i → cntN c i < 2147483647 → Con Tryz.prog env 91 [.agg (chAV c), tabAV c, I i, I n] (.own 3 1 ((nthR c f i n).map natAV))
  | 0, i, n, h1, h2, h3, h4, h5 => by omega
  | f + 1, i, n, h1, h2, h3, h4, h5 => by
    have hlen := h.few
    have f0 := tabReal_con env c h i
    have hiz : i = -1 ∨ inZ c i = true := by
      by_cases e : i = -1
      · exact .inl e
      · exact .inr (by unfold inZ; rw [decide_eq_true (show 0 ≤ i by omega), decide_eq_true h2]; rfl)
    rw [if_pos hiz] at f0
    have hKl := kids_few h.toRight i true
    have hfew := nthR_few h.toRight (f := f + 1) h1 (by omega) h4 h5
    have hcl : ∀ k ∈ kidsL c i true, 1 ≤ cntN c k ∧ cntN c k < 2147483647 := fun k hk => by
      have := cnt_less h.toRight h1 h5 hk
      have := (cnt_kid h.toRight hk h1).1
      omega
    have fk : ∀ (j k d : Nat), (kidsL c i true)[j]? = some k → d < cntN c k → Con Tryz.prog env 91 [.agg (chAV c), tabAV c, I k, I d] (.own 3 1 ((nthR c f k d).map natAV)) := fun j k d hj hd => by
      have hk := List.mem_of_getElem? hj
      have := kid_gt h.toRight (kid_real hk).1
      exact nth29_con env c h f k d (by omega) (by omega) (by omega) hd (hcl k hk).2
    have fc : ∀ (j k : Nat), (kidsL c i true)[j]? = some k → Con Tryz.prog env 92 [.agg (chAV c), tabAV c, I k] (I (cntN c k : Nat)) := fun j k hj => by
      have hk := List.mem_of_getElem? hj
      have := kid_gt h.toRight (kid_real hk).1
      exact count_con env c h 40 k (by omega) (by omega) (by omega)
    have hcj : ∀ (j k : Nat), (kidsL c i true)[j]? = some k → 1 ≤ cntN c k ∧ cntN c k < 2147483647 := fun j k hj => hcl k (List.mem_of_getElem? hj)
    unfold tabAV at f0 fk fc ⊢
    cases hp : parB c i with
    | true =>
      obtain ⟨Q, L, hQ, hL, hst, hL0, hQn, hLl⟩ := nth_par (f := f) (n := n) hp
      rcases in_cases h1 h2 with ⟨rfl, hp2⟩ | ⟨m, s, rfl, hs, hp2⟩
      · rw [hp2] at hp; cases hp
      rw [hp] at hp2
      rw [← hL0] at hLl hfew ⊢
      try clear hL0 hcl
      generalize kidsL c m true = K at *
      have g0 : ((m : Nat) : Int) < (c.states.length : Int) := h2
      have b2 : (s.kind == 2) = true := hp2.symm
      have w0 : IntKind.i64.wrap ((K.length : Int) - 1) = (K.length : Int) - 1 := wrap_in (by omega) (by omega)
      refine con_of_body Tryz.func91 rfl Tryz.call91 (by rw [Tryz.ntmps91]; simp) ?_
      rw [Tryz.ntmps91, Tryz.results91]
      have F := And.intro chAV.eq_1 <| And.intro stAV.eq_1 <| And.intro g0 <| And.intro hs <| And.intro b2 <| w0
      repeat (first | refine st ?_ | refine cC f0 ?_)
      refine awp_nilrow 10 10 3 1 ?_
      refine awp_loopH (D := Nat) (fun d vs => [(1, .ref 9 [tabCells c] 0 0), (3, I (Q d : Nat)), (4, .loc 4 (vs 4) 0 0), (9, .row 18 (vs 18)), (10, .row 10 (vs 10)), (11, I ((d : Int) - 1))]) (fun d _ => [(4, ⟨5, [chAV c], 26, false⟩), (10, ⟨1, (L d).map natAV, 3, true⟩), (18, ⟨1, K.map natAV, 3, true⟩)]) (fun d _ esc => d ≤ K.length ∧ esc 10 = false) (fun d => d) K.length ?_ ?_ ?_ ?_
      · exact ⟨Nat.le_refl _, rfl⟩
      · have F := hQ
        (simp only [go_sem, F])
      · have F := And.intro chAV.eq_1 <| hL
        (simp only [go_sem, F])
        try rfl
      rintro d ws esc ⟨hd, e0⟩
      by_cases hd0 : 0 < d
      · obtain ⟨k, hk⟩ : ∃ k, K[d - 1]? = some k := ⟨K[d - 1]'(by omega), List.getElem?_eq_getElem _⟩
        obtain ⟨st1, st2⟩ := hst (d - 1) k hk
        rw [show d - 1 + 1 = d by omega] at st1 st2
        obtain ⟨c1, c2⟩ := hcj _ k hk
        have t1 : (0 : Int) ≤ (d : Int) - 1 := by omega
        have t2 : (d : Int) - 1 < (K.length : Int) := by omega
        have t3 : ((d : Int) - 1).toNat = d - 1 := by omega
        have t4 : IntKind.i64.wrap ((d : Int) - 1 - 1) = ((d - 1 : Nat) : Int) - 1 := by rw [wrap_in (by omega) (by omega)]; omega
        have m0 : ¬ ((cntN c k : Nat) : Int) = 0 := by omega
        have t5 := nat_tmod (Q d) (cntN c k)
        have hqn := hQn d
        have t6 := wrap_tdiv (Q d) (cntN c k) (by omega)
        have f1 := fc _ k hk
        have f2 := fk _ k (Q d % cntN c k) hk (Nat.mod_lt _ (by omega))
        have hl1 := hLl (d - 1) (by omega)
        rw [st2, List.length_append, List.length_cons] at hl1
        have hf1 : Fits ((L d).length + 1) 8 := fits_small (by omega) (by omega)
        have hf2 : Fits ((L d).length + 1 + (nthR c f k (Q d % cntN c k)).length) 8 := fits_small (by omega) (by omega)
        have F := And.intro chAV.eq_1 <| And.intro natAV.eq_1 <| And.intro hk <| And.intro t1 <| And.intro t2 <| And.intro t3 <| And.intro t4 <| And.intro t5 <| And.intro t6 <| And.intro m0 <| And.intro hf1 <| And.intro hf2 <| e0
        repeat (first | refine st ?_ | refine cC f1 ?_ | refine cC f2 ?_)
        refine ⟨d - 1, ⟨by omega, by simp only [go_sem, e0]⟩, ?_, ?_, by omega⟩
        · have F := st1
          (simp only [go_sem, F])
        · have F := And.intro chAV.eq_1 <| And.intro natAV.eq_1 <| st2
          (simp only [go_sem, List.map_append, List.append_assoc, F])
      · have hd1 : d = 0 := by omega
        have t1 : ¬ (0 : Int) ≤ (d : Int) - 1 := by omega
        have F := And.intro chAV.eq_1 <| And.intro t1 <| And.intro hd1 <| e0
        repeat refine st ?_
        exact aR
    | false =>
      obtain ⟨hR, _⟩ := nth_seq (f := f) (n := n) hp
      rw [hR] at hfew ⊢
      have hx : ∀ j k r : Nat, (kidsL c i true)[j]? = some k → seqD (fun k => cntN c k) (kidsL c i true) n = seqD (fun k => cntN c k) ((kidsL c i true).drop j) r → r < cntN c k → seqD (fun k => cntN c k) (kidsL c i true) n = some (k, r) := fun j k r hk hr hlt => by rw [hr, seq_yes hk hlt]
      try clear hR hcl
      have main : Con Tryz.prog env 91 [.agg (chAV c), .ref 9 [tabCells c] 0 0, I i, I n] (.own 3 1 ((match seqD (fun k => cntN c k) (kidsL c i true) n with | some p => p.1 :: nthR c f p.1 p.2 | none => []).map natAV)) := by
        generalize kidsL c i true = K at *
        rcases in_cases h1 h2 with ⟨rfl, hp2⟩ | ⟨m, s, rfl, hs, hp2⟩
        · refine con_of_body_w Tryz.func91 rfl Tryz.call91 (by rw [Tryz.ntmps91]; simp) ?_
          rw [Tryz.ntmps91, Tryz.results91]
          have F := chAV.eq_1
          repeat (first | refine st ?_ | refine cC f0 ?_)
          refine awp_loopH (D := Nat × Nat) (fun d vs => [(1, .ref 9 [tabCells c] 0 0), (3, I (d.2 : Nat)), (4, .loc 4 (vs 4) 0 0), (66, .row 18 (vs 18)), (67, I K.length), (68, I (d.1 : Nat))]) (fun _ _ => [(4, ⟨5, [chAV c], 26, false⟩), (18, ⟨1, K.map natAV, 3, true⟩)]) (fun d _ _ => d.1 ≤ K.length ∧ d.2 ≤ n ∧ seqD (fun k => cntN c k) K n = seqD (fun k => cntN c k) (K.drop d.1) d.2) (fun d => K.length - d.1) (0, n) ?_ ?_ ?_ ?_
          · exact ⟨Nat.zero_le _, Nat.le_refl _, rfl⟩
          · (simp only [go_sem, F])
          · have F := chAV.eq_1
            (simp only [go_sem, F])
            try rfl
          rintro ⟨j, r⟩ ws esc ⟨hj, hr, hseq⟩
          simp only at hj hr hseq ⊢
          by_cases hlt : j < K.length
          · obtain ⟨k, hk⟩ : ∃ k, K[j]? = some k := ⟨K[j], List.getElem?_eq_getElem hlt⟩
            obtain ⟨c1, c2⟩ := hcj _ k hk
            have g1 := nlt hlt
            have g2 := wrap_succ hlt (by omega)
            have f1 := fc _ k hk
            by_cases hrk : r < cntN c k
            · have g3 := nlt hrk
              have f2 := fk _ k r hk hrk
              have hs1 := hx j k r hk hseq hrk
              rw [hs1] at hfew ⊢
              simp only [List.length_cons] at hfew
              have hf1 : Fits (1 + (nthR c f k r).length) 8 := fits_small (by omega) (by omega)
              have hf2 : Fits (0 + 1 + (nthR c f k r).length) 8 := fits_small (by omega) (by omega)
              have F := And.intro chAV.eq_1 <| And.intro natAV.eq_1 <| And.intro hk <| And.intro g1 <| And.intro g3 <| And.intro hf1 <| hf2
              repeat (first | refine st ?_ | refine cC f1 ?_ | refine cC f2 ?_)
              (refine awp_ret ?_; refine ⟨_, (by show (resRd _ _ _).run _ = some _; simp only [go_sem, F]; rfl), ?_⟩)
              exact RStr.refl _
            · have g3 : ¬ ((r : Nat) : Int) < ((cntN c k : Nat) : Int) := by omega
              have g4 : IntKind.i64.wrap (((r : Nat) : Int) - ((cntN c k : Nat) : Int)) = ((r - cntN c k : Nat) : Int) := by rw [wrap_in (by omega) (by omega)]; omega
              have F := And.intro chAV.eq_1 <| And.intro natAV.eq_1 <| And.intro hk <| And.intro g1 <| And.intro g2 <| And.intro g3 <| g4
              repeat (first | refine st ?_ | refine cC f1 ?_)
              refine ⟨(j + 1, r - cntN c k), ⟨hlt, by show r - cntN c k ≤ n; omega, by rw [hseq, seq_no hk hrk]⟩, ?_, ?_, by show K.length - (j + 1) < K.length - j; omega⟩
              · (simp only [go_sem, F])
              · have F := chAV.eq_1
                (simp only [go_sem, F])
          · obtain rfl : j = K.length := by omega
            have g1 : ¬ (K.length : Int) < (K.length : Int) := by omega
            rw [hseq, seq_end]
            have F := g1
            repeat refine st ?_
            (refine awp_ret ?_; refine ⟨_, (by show (resRd _ _ _).run _ = some _; simp only [go_sem, F]; rfl), ?_⟩)
            exact RStr.own_nil _ _ (by decide)
        · rw [hp] at hp2
          have g0 : ((m : Nat) : Int) < (c.states.length : Int) := h2
          have b2 : (s.kind == 2) = false := hp2.symm
          refine con_of_body_w Tryz.func91 rfl Tryz.call91 (by rw [Tryz.ntmps91]; simp) ?_
          rw [Tryz.ntmps91, Tryz.results91]
          have F := And.intro chAV.eq_1 <| And.intro stAV.eq_1 <| And.intro g0 <| And.intro hs <| b2
          repeat (first | refine st ?_ | refine cC f0 ?_)
          refine awp_loopH (D := Nat × Nat) (fun d vs => [(1, .ref 9 [tabCells c] 0 0), (3, I (d.2 : Nat)), (4, .loc 4 (vs 4) 0 0), (66, .row 18 (vs 18)), (67, I K.length), (68, I (d.1 : Nat))]) (fun _ _ => [(4, ⟨5, [chAV c], 26, false⟩), (18, ⟨1, K.map natAV, 3, true⟩)]) (fun d _ _ => d.1 ≤ K.length ∧ d.2 ≤ n ∧ seqD (fun k => cntN c k) K n = seqD (fun k => cntN c k) (K.drop d.1) d.2) (fun d => K.length - d.1) (0, n) ?_ ?_ ?_ ?_
          · exact ⟨Nat.zero_le _, Nat.le_refl _, rfl⟩
          · (simp only [go_sem, F])
          · have F := chAV.eq_1
            (simp only [go_sem, F])
            try rfl
          rintro ⟨j, r⟩ ws esc ⟨hj, hr, hseq⟩
          simp only at hj hr hseq ⊢
          by_cases hlt : j < K.length
          · obtain ⟨k, hk⟩ : ∃ k, K[j]? = some k := ⟨K[j], List.getElem?_eq_getElem hlt⟩
            obtain ⟨c1, c2⟩ := hcj _ k hk
            have g1 := nlt hlt
            have g2 := wrap_succ hlt (by omega)
            have f1 := fc _ k hk
            by_cases hrk : r < cntN c k
            · have g3 := nlt hrk
              have f2 := fk _ k r hk hrk
              have hs1 := hx j k r hk hseq hrk
              rw [hs1] at hfew ⊢
              simp only [List.length_cons] at hfew
              have hf1 : Fits (1 + (nthR c f k r).length) 8 := fits_small (by omega) (by omega)
              have hf2 : Fits (0 + 1 + (nthR c f k r).length) 8 := fits_small (by omega) (by omega)
              have F := And.intro chAV.eq_1 <| And.intro natAV.eq_1 <| And.intro hk <| And.intro g1 <| And.intro g3 <| And.intro hf1 <| hf2
              repeat (first | refine st ?_ | refine cC f1 ?_ | refine cC f2 ?_)
              (refine awp_ret ?_; refine ⟨_, (by show (resRd _ _ _).run _ = some _; simp only [go_sem, F]; rfl), ?_⟩)
              exact RStr.refl _
            · have g3 : ¬ ((r : Nat) : Int) < ((cntN c k : Nat) : Int) := by omega
              have g4 : IntKind.i64.wrap (((r : Nat) : Int) - ((cntN c k : Nat) : Int)) = ((r - cntN c k : Nat) : Int) := by rw [wrap_in (by omega) (by omega)]; omega
              have F := And.intro chAV.eq_1 <| And.intro natAV.eq_1 <| And.intro hk <| And.intro g1 <| And.intro g2 <| And.intro g3 <| g4
              repeat (first | refine st ?_ | refine cC f1 ?_)
              refine ⟨(j + 1, r - cntN c k), ⟨hlt, by show r - cntN c k ≤ n; omega, by rw [hseq, seq_no hk hrk]⟩, ?_, ?_, by show K.length - (j + 1) < K.length - j; omega⟩
              · (simp only [go_sem, F])
              · have F := chAV.eq_1
                (simp only [go_sem, F])
          · obtain rfl : j = K.length := by omega
            have g1 : ¬ (K.length : Int) < (K.length : Int) := by omega
            rw [hseq, seq_end]
            have F := g1
            repeat refine st ?_
            (refine awp_ret ?_; refine ⟨_, (by show (resRd _ _ _).run _ = some _; simp only [go_sem, F]; rfl), ?_⟩)
            exact RStr.own_nil _ _ (by decide)
      exact main
end Go.Proofs.YthffdneigmbgfaaGreatDoor
set_option linter.unusedSimpArgs false
namespace Go.Proofs.YthffdneigmbgfaaGreatDoor
open Go.RowKit
set_option maxRecDepth 100000
set_option maxHeartbeats 8000000
theorem pNth_bad (env : Env) (a2 : Addr) (h2 : env 1 = some (sentV a2)) (c : ChD) (h : Full c) (hsm : Small c) (x : Int) (hb : x < 0 ∨ (cntN c (-1) : Int) ≤ x ∨ cntN c (-1) = 2147483647) : Con Tryz.prog env 45 [tabAV c, I x] (.tuple [nilS, errV (-1) (sentV a2)]) := by
  have g1 := gt_at h2
  have f0 := countAll_con env c h hsm
  have f1 := new_con env [108, 101, 103, 97, 108, 46, 78, 116, 104] a2
  unfold tabAV at f0 ⊢
  generalize cntN c (-1) = m at *
  by_cases e1 : x < 0
  · refine con_of_body Tryz.func45 rfl Tryz.call45 (by rw [Tryz.ntmps45]; simp) ?_
    rw [Tryz.ntmps45, Tryz.results45]
    have F := And.intro g1 <| e1
    repeat (first | refine st ?_ | refine cC f0 ?_ | refine cC f1 ?_)
    exact aR
  · by_cases e2 : (m : Int) ≤ x
    · refine con_of_body Tryz.func45 rfl Tryz.call45 (by rw [Tryz.ntmps45]; simp) ?_
      rw [Tryz.ntmps45, Tryz.results45]
      have F := And.intro g1 <| And.intro e1 <| e2
      repeat (first | refine st ?_ | refine cC f0 ?_ | refine cC f1 ?_)
      exact aR
    · have e3 : (((m : Nat) : Int) == 2147483647) = true := by simp; omega
      refine con_of_body Tryz.func45 rfl Tryz.call45 (by rw [Tryz.ntmps45]; simp) ?_
      rw [Tryz.ntmps45, Tryz.results45]
      have F := And.intro g1 <| And.intro e1 <| And.intro e2 <| e3
      repeat (first | refine st ?_ | refine cC f0 ?_ | refine cC f1 ?_)
      exact aR
theorem pNth_ok (env : Env) (c : ChD) (h : Full c) (hsm : Small c) (n : Nat) (hn : n < cntN c (-1)) (hc : cntN c (-1) < 2147483647) : Con Tryz.prog env 45 [tabAV c, I n] (.tuple [.seq 1 ((riseL c (nthR c 40 (-1) n)).map natAV), nilE]) := by
  have hlen := h.few
  have f0 := countAll_con env c h hsm
  have f1 := tabChart_con env c hsm
  have f2 := nth29_con env c h 40 (-1) n (by omega) (by omega) (by omega) hn hc
  have hN := nth_ok h.toRight 40 (-1) n (by omega) (by omega) hn hc
  have hp := nthR_perm (c := c) 40 (-1) n
  have hfew := nthR_few h.toRight (f := 40) (i := -1) (by omega) (by omega) hn hc
  have hsort : sortZ (zL (nthR c 40 (-1) n)) = zL (riseL c (nthR c 40 (-1) n)) := sort_rises (hp.nodup_iff.2 hN.nodup) fun k hk => nth_bound hN k (hp.mem_iff.1 hk)
  try clear hp hN
  have e1 : ¬ ((n : Nat) : Int) < 0 := by omega
  have e2 : ¬ ((cntN c (-1) : Nat) : Int) ≤ (n : Int) := by omega
  have e3 : (((cntN c (-1) : Nat) : Int) == 2147483647) = false := by simp; omega
  generalize nthR c 40 (-1) n = L at *
  have f3 := sortI_turns (zL L) (by rw [zL_len]; omega)
  have hLi := zL_int L
  have hRi := zL_int (riseL c L)
  unfold tabAV at f0 f1 f2 ⊢
  refine con_of_body Tryz.func45 rfl Tryz.call45 (by rw [Tryz.ntmps45]; simp) ?_
  rw [Tryz.ntmps45, Tryz.results45]
  have F := And.intro e1 <| And.intro e2 <| e3
  repeat (first | refine st ?_ | refine cC f0 ?_ | refine cC f1 ?_ | refine cC f2 ?_)
  refine g_turn 31 rfl (row := ⟨1, (zL L).map intAV, 3, true⟩) f3 (Nat.succ_ne_zero 0) rfl (litEs_int _).symm (by simp only [go_sem]; exact iR) (by simp only [go_sem, hLi]; exact iR) (by simp only [go_sem]; exact iR) (by simp only [go_sem]; exact iR) ?_
  rw [litEs_int, hsort, hRi]
  repeat refine st ?_
  exact aR
theorem min_if (a b : Nat) : min a b = if b < a then b else a := by split <;> omega
theorem lt_cast (a : Nat) : ((2147483647 : Int) < ((a : Nat) : Int)) = (2147483647 < a) := propext ⟨by omega, by omega⟩
theorem rCount_con (env : Env) (c : ChD) (h : Full c) : ∀ (n : Nat) (i : Int), -1 ≤ i → i < (c.states.length : Int) → (c.states.length : Int) ≤ i + n → Con Tryz.prog env 44 [.agg (chAV c), I i] (I (cntN c i : Nat))
  | 0, i, h1, h2, h3 => by omega
  | n + 1, i, h1, h2, h3 => by
    have hlen := h.few
    have f0 := rKids_con env c i true (by omega)
    have hKl := kids_few h.toRight i true
    have hx0 : ∀ j k : Nat, (kidsL c i true)[j]? = some k → Con Tryz.prog env 44 [.agg (chAV c), I k] (I (cntN c k : Nat)) := fun j k hj => by
      have := kid_gt h.toRight (kid_real (List.mem_of_getElem? hj)).1
      exact rCount_con env c h n k (by omega) (by omega) (by omega)
    have hx1 : ∀ j k : Nat, (kidsL c i true)[j]? = some k → cntN c k ≤ 2147483647 := fun j k hj => (cnt_kid h.toRight (List.mem_of_getElem? hj) h1).2
    rw [cnt_eq h.toRight h1]
    generalize kidsL c i true = K at *
    refine con_of_body Tryz.func44 rfl Tryz.call44 (by rw [Tryz.ntmps44]; simp) ?_
    rw [Tryz.ntmps44, Tryz.results44]
    have F := chAV.eq_1
    repeat (first | refine st ?_ | refine cC f0 ?_)
    refine awp_loopH (D := Nat) (fun j vs => [(1, I i), (2, .loc 2 (vs 2) 0 0), (5, .row 12 (vs 12)), (6, I (sumG (fun k => cntN c k) (K.take j) : Nat)), (7, I (mulG (fun k => cntN c k) (K.take j) : Nat)), (8, I j)]) (fun _ _ => [(2, ⟨5, [chAV c], 26, false⟩), (12, ⟨1, K.map natAV, 3, true⟩)]) (fun j _ _ => j ≤ K.length) (fun j => K.length - j) 0 ?_ ?_ ?_ ?_
    · exact Nat.zero_le _
    · have z0 : sumG (fun k => cntN c k) [] = 0 := rfl
      have z1 : mulG (fun k => cntN c k) [] = 1 := rfl
      have F := And.intro z0 <| z1
      (simp only [go_sem, F])
    · have F := chAV.eq_1
      (simp only [go_sem, F])
      try rfl
    rintro j ws esc hj
    by_cases hlt : j < K.length
    · obtain ⟨k, hk⟩ : ∃ k, K[j]? = some k := ⟨K[j], List.getElem?_eq_getElem hlt⟩
      have g1 := nlt hlt
      have g2 := wrap_succ hlt (by omega)
      have f1 := hx0 j k hk
      have hm := hx1 j k hk
      have hS : sumG (fun k => cntN c k) (K.take j) ≤ 2147483647 := sumG_le _ _ (by omega)
      have hT : mulG (fun k => cntN c k) (K.take j) ≤ 2147483647 := mulG_le _ _ (by omega)
      have hn := sum_more (g := fun k => cntN c k) hk
      have hn2 := mul_more (g := fun k => cntN c k) hk
      rw [min_if] at hn hn2
      generalize sumG (fun k => cntN c k) (K.take j) = S at *
      generalize mulG (fun k => cntN c k) (K.take j) = T at *
      generalize cntN c k = m at *
      have hmm : T * m ≤ 2147483647 * 2147483647 := Nat.mul_le_mul hT hm
      have w1 : IntKind.i64.wrap ((S : Int) + (m : Int)) = ((S + m : Nat) : Int) := by rw [wrap_in (by omega) (by omega)]; omega
      have w2 : IntKind.i64.wrap ((T : Int) * (m : Int)) = ((T * m : Nat) : Int) := by
        rw [← Int.natCast_mul]
        exact wrap_in (by omega) (by omega)
      have x1 := lt_cast (S + m)
      have x2 := lt_cast (T * m)
      by_cases e1 : 2147483647 < S + m <;> by_cases e2 : 2147483647 < T * m <;>
      · have F := And.intro chAV.eq_1 <| And.intro natAV.eq_1 <| And.intro g1 <| And.intro g2 <| And.intro hk <| And.intro w1 <| And.intro w2 <| And.intro x1 <| And.intro x2 <| And.intro e1 <| e2
        repeat (first | refine st ?_ | refine cC f1 ?_)
        refine ⟨j + 1, hlt, ?_, ?_, by omega⟩
        · have F := And.intro hn <| And.intro hn2 <| And.intro e1 <| e2
          (simp only [go_sem, F])
        · have F := chAV.eq_1
          (simp only [go_sem, F])
    · obtain rfl : j = K.length := by omega
      have g1 : ¬ (K.length : Int) < (K.length : Int) := by omega
      have hta : K.take K.length = K := List.take_length
      by_cases hK0 : K = []
      · rw [if_pos hK0]
        have q0 : ((K.length : Nat) : Int) = 0 := by rw [hK0]; rfl
        have z1 : mulG (fun k => cntN c k) K = 1 := by rw [hK0]; rfl
        have g3 : ¬ (0 : Int) < 0 := by omega
        have F := And.intro chAV.eq_1 <| And.intro hta <| And.intro q0 <| And.intro z1 <| g3
        repeat refine st ?_
        exact aR
      rw [if_neg hK0]
      have q0 : (((K.length : Nat) : Int) == 0) = false := by
        have := List.length_pos_iff.2 hK0
        simp; omega
      rcases in_cases h1 h2 with ⟨rfl, hp⟩ | ⟨m, s, rfl, hs, hp⟩
      · rw [hp, if_neg Bool.false_ne_true]
        have F := And.intro chAV.eq_1 <| And.intro g1 <| And.intro hta <| q0
        repeat refine st ?_
        exact aR
      · have g0 : ((m : Nat) : Int) < (c.states.length : Int) := h2
        cases hp2 : (s.kind == 2) with
        | false =>
          rw [hp2] at hp
          rw [hp, if_neg Bool.false_ne_true]
          have F := And.intro chAV.eq_1 <| And.intro stAV.eq_1 <| And.intro g1 <| And.intro hta <| And.intro q0 <| And.intro g0 <| And.intro hs <| hp2
          repeat refine st ?_
          exact aR
        | true =>
          rw [hp2] at hp
          rw [hp, if_pos rfl]
          have F := And.intro chAV.eq_1 <| And.intro stAV.eq_1 <| And.intro g1 <| And.intro hta <| And.intro q0 <| And.intro g0 <| And.intro hs <| hp2
          repeat refine st ?_
          exact aR
end Go.Proofs.YthffdneigmbgfaaGreatDoor
