/- The law LegalNumbers. -/
import Derived.Test.YthffdneigmbgfaaGreatDoorG1
import Derived.Test.YthffdneigmbgfaaGreatDoorG5
import Derived.Test.YthffdneigmbgfaaGreatDoorM7
import Derived.Test.YthffdneigmbgfaaGreatDoorG8
namespace Go.Proofs.YthffdneigmbgfaaGreatDoor
open Go.RowKit
theorem flat_beneath {c : ChD} (h : Right c) {i : Int} {ps : List (Nat × Nat)} {g : Nat × Nat → List Nat} (hk : ∀ p ∈ ps, p.1 ∈ kidsL c i true ∧ ∀ x ∈ g p, (p.1 : Int) ∈ upL c x) (hn : (ps.map Prod.fst).Nodup)
    {p : Nat × Nat} (hp : p ∈ ps) {x : Nat} (hx : (p.1 : Int) ∈ upL c x) (hxl : x < c.states.length) : (x ∈ ps.flatMap fun p => p.1 :: g p) ↔ x ∈ g p := by
  simp only [List.mem_flatMap, List.mem_cons]
  refine ⟨?_, fun e => ⟨p, hp, .inr e⟩⟩
  rintro ⟨q, hq, rfl | e⟩
  · exfalso
    have hr := (kid_real (hk p hp).1).1
    have hg := kid_gt h hr
    have hqr := (kid_real (hk q hq).1).1
    have hqp := (kid_iff.1 hqr).2
    rcases (up_mem h (inZ_nat.2 hxl)).1 hx with e | e
    · omega
    · rw [hqp] at e
      have := up_lt h 40 _ _ e
      omega
  · have := kid_one h (kid_real (hk p hp).1).1 (kid_real (hk q hq).1).1 (x + 1) x (by omega) hxl (.inr hx) (.inr ((hk q hq).2 x e))
    rw [fst_one hn hp hq this]
    exact e
theorem par_beneath {c : ChD} (h : Right c) {f : Nat} {i : Int} {n : Nat} (hi : -1 ≤ i) (hf : (c.states.length : Int) ≤ i + (f + 1)) (hp : parB c i = true) (hc : cntN c i < 2147483647) {k d : Nat} (hk : (k, d) ∈ (parD (fun k => cntN c k) (kidsL c i true) n).1)
    {x : Nat} (hx : (k : Int) ∈ upL c x) (hxl : x < c.states.length) : x ∈ nthF c (f + 1) i n ↔ x ∈ nthF c f k d := by
  have hpos : ∀ k ∈ kidsL c i true, 1 ≤ cntN c k := fun k hk => (cnt_kid h hk hi).1
  conv => lhs; unfold nthF
  rw [if_pos hp]
  refine flat_beneath h (i := i) (g := fun p => nthF c f p.1 p.2) (fun p hp => ?_) (by rw [parD_fst]; exact kidsL_nodup ..) hk hx hxl
  obtain ⟨h1, h2⟩ := parD_mem _ hpos hp
  have hg := kid_gt h (kid_real h1).1
  have := cnt_less h hi hc h1
  exact ⟨h1, fun x hx => ((nth_ok h f p.1 p.2 (by omega) (by omega) h2 (by omega)).real x hx).1⟩
theorem seq_beneath {c : ChD} (h : Right c) {f : Nat} {i : Int} {n : Nat} (hi : -1 ≤ i) (hf : (c.states.length : Int) ≤ i + (f + 1)) (hp : parB c i = false) (hc : cntN c i < 2147483647) {k d : Nat} (hs : seqD (fun k => cntN c k) (kidsL c i true) n = some (k, d)) (hk : k ∈ kidsL c i true) (hd : d < cntN c k)
    {x : Nat} (hx : (k : Int) ∈ upL c x) (hxl : x < c.states.length) : x ∈ nthF c (f + 1) i n ↔ x ∈ nthF c f k d := by
  rw [(nth_seq hp).2, hs]
  have := flat_beneath h (i := i) (ps := [(k, d)]) (g := fun p => nthF c f p.1 p.2) (fun p hp => ?_) (by simp) (List.mem_singleton.2 rfl) hx hxl
  · simpa using this
  · rw [List.mem_singleton] at hp
    subst hp
    have hg := kid_gt h (kid_real hk).1
    have := cnt_less h hi hc hk
    exact ⟨hk, fun x hx => ((nth_ok h f k d (by omega) (by omega) hd (by omega)).real x hx).1⟩
theorem seqD_mem {m : Nat → Nat} : ∀ {ks : List Nat} {n k d : Nat}, seqD m ks n = some (k, d) → k ∈ ks ∧ d < m k
  | x :: ks, n, k, d, h => by
    simp only [seqD] at h
    split at h
    · rename_i e
      cases h
      exact ⟨by simp, e⟩
    · obtain ⟨h1, h2⟩ := seqD_mem h
      exact ⟨List.mem_cons_of_mem _ h1, h2⟩
theorem seqD_inj {m : Nat → Nat} : ∀ {ks : List Nat} {n n' : Nat} {p : Nat × Nat}, ks.Nodup → seqD m ks n = some p → seqD m ks n' = some p → n = n'
  | x :: ks, n, n', p, hn, h, h' => by
    rw [List.nodup_cons] at hn
    simp only [seqD] at h h'
    by_cases e : n < m x <;> by_cases e' : n' < m x
    · rw [if_pos e] at h
      rw [if_pos e'] at h'
      rw [← h] at h'
      cases h'
      rfl
    · rw [if_pos e] at h
      rw [if_neg e'] at h'
      cases h
      exact absurd (seqD_mem h').1 hn.1
    · rw [if_neg e] at h
      rw [if_pos e'] at h'
      cases h'
      exact absurd (seqD_mem h).1 hn.1
    · rw [if_neg e] at h
      rw [if_neg e'] at h'
      have := seqD_inj hn.2 h h'
      omega
theorem seq_kid {c : ChD} (h : Right c) {f : Nat} {i : Int} {n : Nat} (hi : -1 ≤ i) (hf : (c.states.length : Int) ≤ i + (f + 1)) (hn : n < cntN c i) (hp : parB c i = false) (hc : cntN c i < 2147483647) {k d : Nat} (hs : seqD (fun k => cntN c k) (kidsL c i true) n = some (k, d)) {y : Nat} (hy : y ∈ kidsL c i true) : y ∈ nthF c (f + 1) i n ↔ y = k := by
  have hN := (nth_ok h (f + 1) i n hi (by omega) hn hc).top
  unfold kidsOk at hN
  rw [if_neg (by rw [hp]; simp)] at hN
  have hk : k ∈ nthF c (f + 1) i n := by rw [(nth_seq hp).2, hs]; simp
  rcases hN with e | ⟨j, hj, e⟩
  · rw [e] at hy; simp at hy
  · have := (e k (seqD_mem hs).1).1 hk
    rw [e y hy, this]
theorem digits {c : ChD} (h : Right c) {i : Int} {n : Nat} (hi : -1 ≤ i) (hn : n < prodN (fun k => cntN c k) (kidsL c i true)) : ∃ V : Nat → Nat, V 0 = 0 ∧ V (kidsL c i true).length = n ∧ (∀ j, V j ≤ n) ∧
    ∀ j k : Nat, (kidsL c i true)[j]? = some k → V (j + 1) = V j * cntN c k + n / prodN (fun k => cntN c k) ((kidsL c i true).drop (j + 1)) % cntN c k := by
  have _u := h
  have _v := hi
  refine ⟨fun j => n / prodN (fun k => cntN c k) ((kidsL c i true).drop j), ?_, ?_, fun j => Nat.div_le_self .., fun j k hk => ?_⟩
  · simp only [List.drop_zero]
    exact Nat.div_eq_of_lt hn
  · simp only [List.drop_length, prodN, Nat.div_one]
  · obtain ⟨he, hk2⟩ := List.getElem?_eq_some_iff.1 hk
    have e : (kidsL c i true).drop j = k :: (kidsL c i true).drop (j + 1) := by rw [List.drop_eq_getElem_cons he, hk2]
    simp only [e, prodN]
    generalize prodN (fun k => cntN c k) ((kidsL c i true).drop (j + 1)) = P
    rw [Nat.mul_comm (cntN c k) P, ← Nat.div_div_eq_div_mul]
    have := Nat.div_add_mod (n / P) (cntN c k)
    rw [Nat.mul_comm] at this
    exact this.symm
theorem nth_inj {c : ChD} (h : Right c) : ∀ (f : Nat) (i : Int) (n n' : Nat), -1 ≤ i → (c.states.length : Int) ≤ i + f → n < cntN c i → n' < cntN c i → cntN c i < 2147483647 → (∀ x, x < c.states.length → i ∈ upL c x → (x ∈ nthF c f i n ↔ x ∈ nthF c f i n')) → n = n'
  | 0, i, n, n', hi, hf, hn, hn', hc, hx => by
    rw [cnt_eq h hi, kids_past h (by omega), if_pos rfl] at hn hn'
    omega
  | f + 1, i, n, n', hi, hf, hn, hn', hc, hx => by
    have up : ∀ {k : Nat}, k ∈ kidsL c i true → ∀ x, x < c.states.length → (k : Int) ∈ upL c x → i ∈ upL c x := fun {k} hk x hxl hx => by
      have hr := (kid_real hk).1
      have hg := kid_gt h hr
      exact up_trans h (x + 1) x k i (by omega) hx ((up_mem h (inZ_nat.2 hg.2)).2 (.inl (kid_iff.1 hr).2.symm))
    cases hp : parB c i with
    | true =>
      have hcp := cnt_par h hi hp hc
      obtain ⟨V, v0, v1, _, v2⟩ := digits h (n := n) hi (by omega)
      obtain ⟨V', v0', v1', _, v2'⟩ := digits h (n := n') hi (by omega)
      have key : ∀ j, j ≤ (kidsL c i true).length → V j = V' j := by
        intro j
        induction j with
        | zero => intro _; rw [v0, v0']
        | succ j ih =>
          intro hj
          have hk : (kidsL c i true)[j]? = some (kidsL c i true)[j] := List.getElem?_eq_getElem (by omega)
          generalize (kidsL c i true)[j] = k at hk
          have hkm := List.mem_of_getElem? hk
          have hg := kid_gt h (kid_real hkm).1
          have hcl := cnt_less h hi hc hkm
          have hc1 := (cnt_kid h hkm hi).1
          rw [v2 j k hk, v2' j k hk, ih (by omega)]
          have := nth_inj h f k _ _ (by omega) (by omega) (Nat.mod_lt (n / prodN (fun k => cntN c k) ((kidsL c i true).drop (j + 1))) (by omega)) (Nat.mod_lt (n' / prodN (fun k => cntN c k) ((kidsL c i true).drop (j + 1))) (by omega)) (by omega) fun x hxl hxk => by
            rw [← par_beneath h hi (by omega) hp hc (List.mem_of_getElem? (parD_at _ hk)) hxk hxl, ← par_beneath h hi (by omega) hp hc (List.mem_of_getElem? (parD_at _ hk)) hxk hxl]
            exact hx x hxl (up hkm x hxl hxk)
          rw [this]
      have := key _ (Nat.le_refl _)
      rw [v1, v1'] at this
      exact this
    | false =>
      by_cases hk : kidsL c i true = []
      · rw [cnt_eq h hi, if_pos hk] at hn hn'
        omega
      · have hcs := cnt_seq h hi hp hc hk
        obtain ⟨k, d, h1, h2, h3⟩ := seqD_some (fun k : Nat => cntN c k) (ks := kidsL c i true) (n := n) (by omega)
        obtain ⟨k', d', h1', h2', h3'⟩ := seqD_some (fun k : Nat => cntN c k) (ks := kidsL c i true) (n := n') (by omega)
        have hg := kid_gt h (kid_real h2).1
        have hkk : k = k' := by
          have hik : i ∈ upL c k := (up_mem h (inZ_nat.2 hg.2)).2 (.inl (kid_iff.1 (kid_real h2).1).2.symm)
          have := (hx k hg.2 hik).1 ((seq_kid h hi (by omega) hn hp hc h1 h2).2 rfl)
          exact (seq_kid h hi (by omega) hn' hp hc h1' h2).1 this
        subst hkk
        have hcl := cnt_less h hi hc h2
        have := nth_inj h f k d d' (by omega) (by omega) h3 h3' (by omega) fun x hxl hxk => by
          rw [← seq_beneath h hi (by omega) hp hc h1 h2 h3 hxk hxl, ← seq_beneath h hi (by omega) hp hc h1' h2' h3' hxk hxl]
          exact hx x hxl (up h2 x hxl hxk)
        subst this
        exact seqD_inj (kidsL_nodup ..) h1 h1'
end Go.Proofs.YthffdneigmbgfaaGreatDoor
set_option linter.unusedSimpArgs false
namespace Go.Proofs.YthffdneigmbgfaaGreatDoor
open Go.RowKit
set_option maxRecDepth 100000
set_option maxHeartbeats 8000000
theorem number29_con (env : Env) (c : ChD) (h : Full c) (act : List Int) : ∀ (f : Nat) (i : Int) (n : Nat), -1 ≤ i → i < (c.states.length : Int) → (c.states.length : Int) ≤ i + f → n < cntN c i → cntN c i < 2147483647 →
    (∀ x : Nat, x < c.states.length → i ∈ upL c x → (act.contains (x : Int) = true ↔ x ∈ nthF c f i n)) → Con Tryz.prog env 95 [.agg (chAV c), tabAV c, .seq 1 (flagA c.states.length act), I i] (I n)
  | 0, i, n, h1, h2, h3, h4, h5, hag => by omega
  | f + 1, i, n, h1, h2, h3, h4, h5, hag => by
    have hlen := h.few
    have hr := h.toRight
    have f0 := tabReal_con env c h i
    have hiz : i = -1 ∨ inZ c i = true := by
      by_cases e : i = -1
      · exact .inl e
      · exact .inr (by unfold inZ; rw [decide_eq_true (show 0 ≤ i by omega), decide_eq_true h2]; rfl)
    rw [if_pos hiz] at f0
    have hKl := kids_few hr i true
    have hfl := flag_len c.states.length act
    have hcl : ∀ k ∈ kidsL c i true, 1 ≤ cntN c k ∧ cntN c k < 2147483647 := fun k hk => by
      have := cnt_less hr h1 h5 hk
      have := (cnt_kid hr hk h1).1
      omega
    have up : ∀ {k : Nat}, k ∈ kidsL c i true → ∀ x, x < c.states.length → (k : Int) ∈ upL c x → i ∈ upL c x := fun {k} hk x hxl hx => by
      have hk1 := (kid_real hk).1
      have hg := kid_gt hr hk1
      exact up_trans hr (x + 1) x k i (by omega) hx ((up_mem hr (inZ_nat.2 hg.2)).2 (.inl (kid_iff.1 hk1).2.symm))
    have fc : ∀ (j k : Nat), (kidsL c i true)[j]? = some k → Con Tryz.prog env 92 [.agg (chAV c), tabAV c, I k] (I (cntN c k : Nat)) := fun j k hj => by
      have hk := List.mem_of_getElem? hj
      have := kid_gt hr (kid_real hk).1
      exact count_con env c h 40 k (by omega) (by omega) (by omega)
    have hcj : ∀ (j k : Nat), (kidsL c i true)[j]? = some k → 1 ≤ cntN c k ∧ cntN c k < 2147483647 ∧ k < c.states.length := fun j k hj => by
      have hk := List.mem_of_getElem? hj
      exact ⟨(hcl k hk).1, (hcl k hk).2, (kid_gt hr (kid_real hk).1).2⟩
    cases hp : parB c i with
    | true =>
      have fk : ∀ (j k : Nat), (kidsL c i true)[j]? = some k → Con Tryz.prog env 95 [.agg (chAV c), tabAV c, .seq 1 (flagA c.states.length act), I k] (I (n / prodN (fun k => cntN c k) ((kidsL c i true).drop (j + 1)) % cntN c k : Nat)) := fun j k hj => by
        have hk := List.mem_of_getElem? hj
        have hg := kid_gt hr (kid_real hk).1
        refine number29_con env c h act f k _ (by omega) (by omega) (by omega) (Nat.mod_lt _ (by have := hcl k hk; omega)) (hcl k hk).2 fun x hxl hxk => ?_
        rw [hag x hxl (up hk x hxl hxk)]
        exact par_beneath hr h1 (by omega) hp h5 (List.mem_of_getElem? (parD_at _ hj)) hxk hxl
      have hcp := cnt_par hr h1 hp h5
      obtain ⟨V, v0, v1, vn, v2⟩ := digits hr (n := n) h1 (by omega)
      rcases in_cases h1 h2 with ⟨rfl, hp2⟩ | ⟨m, s, rfl, hs, hp2⟩
      · rw [hp2] at hp; cases hp
      rw [hp] at hp2
      rw [← v1]
      have hV := vn
      try clear hcl hag up hcp
      unfold tabAV at f0 fk fc ⊢
      generalize kidsL c m true = K at *
      have g0 : ((m : Nat) : Int) < (c.states.length : Int) := h2
      have b2 : (s.kind == 2) = true := hp2.symm
      refine con_of_body Tryz.func95 rfl Tryz.call95 (by rw [Tryz.ntmps95]; simp) ?_
      rw [Tryz.ntmps95, Tryz.results95]
      have F := And.intro chAV.eq_1 <| And.intro stAV.eq_1 <| And.intro g0 <| And.intro hs <| b2
      repeat (first | refine st ?_ | refine cC f0 ?_)
      refine awp_loopH (D := Nat) (fun j vs => [(1, .ref 9 [tabCells c] 0 0), (2, .seq 1 (flagA c.states.length act)), (4, .loc 4 (vs 4) 0 0), (10, I (V j : Nat)), (29, .row 17 (vs 17)), (30, I K.length), (31, I j)]) (fun _ _ => [(4, ⟨5, [chAV c], 26, false⟩), (17, ⟨1, K.map natAV, 3, true⟩)]) (fun j _ _ => j ≤ K.length) (fun j => K.length - j) 0 ?_ ?_ ?_ ?_
      · exact Nat.zero_le _
      · have F := v0
        (simp only [go_sem, F])
      · have F := chAV.eq_1
        (simp only [go_sem, F])
        try rfl
      rintro j ws esc hj
      by_cases hlt : j < K.length
      · obtain ⟨k, hk⟩ : ∃ k, K[j]? = some k := ⟨K[j], List.getElem?_eq_getElem hlt⟩
        have g1 := nlt hlt
        have g2 := wrap_succ hlt (by omega)
        have f1 := fc _ k hk
        have f2 := fk j k hk
        have hv := v2 j k hk
        have hv1 := vn (j + 1)
        generalize n / prodN (fun k => cntN c k) (K.drop (j + 1)) % cntN c k = d at *
        obtain ⟨V1, hV1⟩ : ∃ v, V (j + 1) = v := ⟨_, rfl⟩
        rw [hV1] at hv hv1
        generalize V j = V0 at *
        have w1 : IntKind.i64.wrap (((V0 : Nat) : Int) * ((cntN c k : Nat) : Int)) = ((V0 * cntN c k : Nat) : Int) := by
          rw [← Int.natCast_mul]
          exact wrap_in (by omega) (by omega)
        have w2 : IntKind.i64.wrap (((V0 * cntN c k : Nat) : Int) + (d : Int)) = (V1 : Int) := by
          rw [hv, wrap_in (by omega) (by omega)]
          omega
        have F := And.intro chAV.eq_1 <| And.intro natAV.eq_1 <| And.intro hk <| And.intro g1 <| And.intro g2 <| And.intro w1 <| w2
        repeat (first | refine st ?_ | refine cC f1 ?_ | refine cC f2 ?_)
        refine ⟨j + 1, hlt, ?_, ?_, by omega⟩
        · have F := hV1
          (simp only [go_sem, F])
        · have F := chAV.eq_1
          (simp only [go_sem, F])
      · obtain rfl : j = K.length := by omega
        have g1 : ¬ (K.length : Int) < (K.length : Int) := by omega
        have F := g1
        repeat refine st ?_
        exact aR
    | false =>
      have fk : ∀ (j k d : Nat), (kidsL c i true)[j]? = some k → seqD (fun k => cntN c k) (kidsL c i true) n = some (k, d) → Con Tryz.prog env 95 [.agg (chAV c), tabAV c, .seq 1 (flagA c.states.length act), I k] (I d) := fun j k d hj hs => by
        have hk := List.mem_of_getElem? hj
        have hg := kid_gt hr (kid_real hk).1
        refine number29_con env c h act f k _ (by omega) (by omega) (by omega) (seqD_mem hs).2 (hcl k hk).2 fun x hxl hxk => ?_
        rw [hag x hxl (up hk x hxl hxk)]
        exact seq_beneath hr h1 (by omega) hp h5 hs hk (seqD_mem hs).2 hxk hxl
      have hin : ∀ (j y k d : Nat), (kidsL c i true)[j]? = some y → seqD (fun k => cntN c k) (kidsL c i true) n = some (k, d) → act.contains (y : Int) = decide (y = k) := fun j y k d hj hs => by
        have hy := List.mem_of_getElem? hj
        have hg := kid_gt hr (kid_real hy).1
        have := (hag y hg.2 ((up_mem hr (inZ_nat.2 hg.2)).2 (.inl (kid_iff.1 (kid_real hy).1).2.symm))).trans (seq_kid hr h1 (by omega) h4 hp h5 hs hy)
        rw [Bool.eq_iff_iff, this, decide_eq_true_iff]
      have hsome : kidsL c i true ≠ [] → ∃ k d, seqD (fun k => cntN c k) (kidsL c i true) n = some (k, d) := fun hk => by
        have hcs := cnt_seq hr h1 hp h5 hk
        obtain ⟨k, d, e, _⟩ := seqD_some (fun k : Nat => cntN c k) (ks := kidsL c i true) (n := n) (by omega)
        exact ⟨k, d, e⟩
      have hnone : kidsL c i true = [] → n = 0 := fun hk => by
        rw [cnt_eq hr h1, if_pos hk] at h4
        omega
      have hnd := kidsL_nodup c i true
      have hlast : ∀ (j y r k d : Nat), (kidsL c i true)[j]? = some y → seqD (fun k => cntN c k) ((kidsL c i true).drop (j + 1)) r = some (k, d) → y ≠ k := fun j y r k d hj hs e => by
        have hm := (seqD_mem hs).1
        obtain ⟨he, hk2⟩ := List.getElem?_eq_some_iff.1 hj
        have e2 : kidsL c i true = (kidsL c i true).take j ++ y :: (kidsL c i true).drop (j + 1) := by
          conv => lhs; rw [← List.take_append_drop j (kidsL c i true)]
          rw [List.drop_eq_getElem_cons he, hk2]
        rw [e2, List.nodup_append] at hnd
        exact (List.nodup_cons.1 hnd.2.1).1 (e ▸ hm)
      have gs : (i = -1 ∧ True) ∨ ∃ (m : Nat) (s : StD), i = m ∧ c.states[m]? = some s ∧ (s.kind == 2) = false := by
        rcases in_cases h1 h2 with ⟨e, _⟩ | ⟨m, s, e, hs, hp2⟩
        · exact .inl ⟨e, trivial⟩
        · exact .inr ⟨m, s, e, hs, by rw [← hp2, hp]⟩
      try clear hcl hag up hnd
      unfold tabAV at f0 fk fc ⊢
      generalize kidsL c i true = K at *
      have round : ∀ (j S : Nat) (y : Nat), K[j]? = some y → S ≤ n → seqD (fun k => cntN c k) K n = seqD (fun k => cntN c k) (K.drop j) (n - S) → (n - S < cntN c y ∧ seqD (fun k => cntN c k) K n = some (y, n - S) ∧ act.contains (y : Int) = true) ∨ (act.contains (y : Int) = false ∧ S + cntN c y ≤ n ∧ seqD (fun k => cntN c k) K n = seqD (fun k => cntN c k) (K.drop (j + 1)) (n - (S + cntN c y))) := fun j S y hy hS hq => by
        by_cases e : n - S < cntN c y
        · have e2 : seqD (fun k => cntN c k) K n = some (y, n - S) := hq.trans (seq_yes hy e)
          exact .inl ⟨e, e2, by rw [hin j y y _ hy e2]; exact decide_eq_true rfl⟩
        · have e2 := hq.trans (seq_no (m := fun k : Nat => cntN c k) hy e)
          obtain ⟨k, d, e3⟩ := hsome (fun q => by rw [q] at hy; simp at hy)
          have hne := hlast j y _ k d hy (e2.symm.trans e3)
          refine .inr ⟨by rw [hin j y k d hy e3]; exact decide_eq_false hne, by omega, ?_⟩
          rw [e2, show n - (S + cntN c y) = n - S - cntN c y by omega]
      have over : ∀ S : Nat, S ≤ n → seqD (fun k => cntN c k) K n = seqD (fun k => cntN c k) (K.drop K.length) (n - S) → S = n := fun S hS hq => by
        rw [seq_end] at hq
        have hK : K = [] := Classical.byContradiction fun q => by
          obtain ⟨k, d, e⟩ := hsome q
          rw [hq] at e
          cases e
        have := hnone hK
        omega
      try clear hin hsome hnone hlast
      rcases gs with ⟨rfl, b2⟩ | ⟨m, s, rfl, hs, b2⟩
      · refine con_of_body Tryz.func95 rfl Tryz.call95 (by rw [Tryz.ntmps95]; simp) ?_
        rw [Tryz.ntmps95, Tryz.results95]
        have F := chAV.eq_1
        repeat (first | refine st ?_ | refine cC f0 ?_)
        refine awp_loopH (D := Nat × Nat) (fun d vs => [(1, .ref 9 [tabCells c] 0 0), (2, .seq 1 (flagA c.states.length act)), (4, .loc 4 (vs 4) 0 0), (10, I (d.2 : Nat)), (49, .row 17 (vs 17)), (50, I K.length), (51, I (d.1 : Nat))]) (fun _ _ => [(4, ⟨5, [chAV c], 26, false⟩), (17, ⟨1, K.map natAV, 3, true⟩)]) (fun d _ _ => d.1 ≤ K.length ∧ d.2 ≤ n ∧ seqD (fun k => cntN c k) K n = seqD (fun k => cntN c k) (K.drop d.1) (n - d.2)) (fun d => K.length - d.1) (0, 0) ?_ ?_ ?_ ?_
        · exact ⟨Nat.zero_le _, Nat.zero_le _, rfl⟩
        · (simp only [go_sem, F])
        · have F := chAV.eq_1
          (simp only [go_sem, F])
          try rfl
        rintro ⟨j, S⟩ ws esc ⟨hj, hS, hseq⟩
        simp only at hj hS hseq ⊢
        by_cases hlt : j < K.length
        · obtain ⟨y, hy⟩ : ∃ k, K[j]? = some k := ⟨K[j], List.getElem?_eq_getElem hlt⟩
          obtain ⟨c1, c2, c3⟩ := hcj _ y hy
          have g1 := nlt hlt
          have g2 := wrap_succ hlt (by omega)
          have g3 := nlt c3
          have hat := flag_at (act := act) c3
          rcases round j S y hy hS hseq with ⟨r1, r2, r3⟩ | ⟨r1, r2, r3⟩
          · have f1 := fk j y _ hy r2
            have w1 : IntKind.i64.wrap ((S : Int) + ((n - S : Nat) : Int)) = (n : Int) := by rw [wrap_in (by omega) (by omega)]; omega
            rw [r3] at hat
            have F := And.intro chAV.eq_1 <| And.intro natAV.eq_1 <| And.intro hy <| And.intro g1 <| And.intro g3 <| And.intro hat <| And.intro hfl <| w1
            repeat (first | refine st ?_ | refine cC f1 ?_)
            exact aR
          · have f1 := fc j y hy
            have w1 : IntKind.i64.wrap ((S : Int) + ((cntN c y : Nat) : Int)) = ((S + cntN c y : Nat) : Int) := by rw [wrap_in (by omega) (by omega)]; omega
            rw [r1] at hat
            have F := And.intro chAV.eq_1 <| And.intro natAV.eq_1 <| And.intro hy <| And.intro g1 <| And.intro g2 <| And.intro g3 <| And.intro hat <| And.intro hfl <| w1
            repeat (first | refine st ?_ | refine cC f1 ?_)
            refine ⟨(j + 1, S + cntN c y), ⟨hlt, r2, r3⟩, ?_, ?_, by show K.length - (j + 1) < K.length - j; omega⟩
            · (simp only [go_sem, F])
            · have F := chAV.eq_1
              (simp only [go_sem, F])
        · obtain rfl : j = K.length := by omega
          have g1 : ¬ (K.length : Int) < (K.length : Int) := by omega
          have e := over S hS hseq
          have F := And.intro g1 <| e
          repeat refine st ?_
          exact aR
      · have g0 : ((m : Nat) : Int) < (c.states.length : Int) := h2
        refine con_of_body Tryz.func95 rfl Tryz.call95 (by rw [Tryz.ntmps95]; simp) ?_
        rw [Tryz.ntmps95, Tryz.results95]
        have F := And.intro chAV.eq_1 <| And.intro stAV.eq_1 <| And.intro g0 <| And.intro hs <| b2
        repeat (first | refine st ?_ | refine cC f0 ?_)
        refine awp_loopH (D := Nat × Nat) (fun d vs => [(1, .ref 9 [tabCells c] 0 0), (2, .seq 1 (flagA c.states.length act)), (4, .loc 4 (vs 4) 0 0), (10, I (d.2 : Nat)), (49, .row 17 (vs 17)), (50, I K.length), (51, I (d.1 : Nat))]) (fun _ _ => [(4, ⟨5, [chAV c], 26, false⟩), (17, ⟨1, K.map natAV, 3, true⟩)]) (fun d _ _ => d.1 ≤ K.length ∧ d.2 ≤ n ∧ seqD (fun k => cntN c k) K n = seqD (fun k => cntN c k) (K.drop d.1) (n - d.2)) (fun d => K.length - d.1) (0, 0) ?_ ?_ ?_ ?_
        · exact ⟨Nat.zero_le _, Nat.zero_le _, rfl⟩
        · (simp only [go_sem, F])
        · have F := chAV.eq_1
          (simp only [go_sem, F])
          try rfl
        rintro ⟨j, S⟩ ws esc ⟨hj, hS, hseq⟩
        simp only at hj hS hseq ⊢
        by_cases hlt : j < K.length
        · obtain ⟨y, hy⟩ : ∃ k, K[j]? = some k := ⟨K[j], List.getElem?_eq_getElem hlt⟩
          obtain ⟨c1, c2, c3⟩ := hcj _ y hy
          have g1 := nlt hlt
          have g2 := wrap_succ hlt (by omega)
          have g3 := nlt c3
          have hat := flag_at (act := act) c3
          rcases round j S y hy hS hseq with ⟨r1, r2, r3⟩ | ⟨r1, r2, r3⟩
          · have f1 := fk j y _ hy r2
            have w1 : IntKind.i64.wrap ((S : Int) + ((n - S : Nat) : Int)) = (n : Int) := by rw [wrap_in (by omega) (by omega)]; omega
            rw [r3] at hat
            have F := And.intro chAV.eq_1 <| And.intro natAV.eq_1 <| And.intro hy <| And.intro g1 <| And.intro g3 <| And.intro hat <| And.intro hfl <| w1
            repeat (first | refine st ?_ | refine cC f1 ?_)
            exact aR
          · have f1 := fc j y hy
            have w1 : IntKind.i64.wrap ((S : Int) + ((cntN c y : Nat) : Int)) = ((S + cntN c y : Nat) : Int) := by rw [wrap_in (by omega) (by omega)]; omega
            rw [r1] at hat
            have F := And.intro chAV.eq_1 <| And.intro natAV.eq_1 <| And.intro hy <| And.intro g1 <| And.intro g2 <| And.intro g3 <| And.intro hat <| And.intro hfl <| w1
            repeat (first | refine st ?_ | refine cC f1 ?_)
            refine ⟨(j + 1, S + cntN c y), ⟨hlt, r2, r3⟩, ?_, ?_, by show K.length - (j + 1) < K.length - j; omega⟩
            · (simp only [go_sem, F])
            · have F := chAV.eq_1
              (simp only [go_sem, F])
        · obtain rfl : j = K.length := by omega
          have g1 : ¬ (K.length : Int) < (K.length : Int) := by omega
          have e := over S hS hseq
          have F := And.intro g1 <| e
          repeat refine st ?_
          exact aR
theorem zL_cont (l : List Nat) (k : Nat) : (zL l).contains (k : Int) = true ↔ k ∈ l := zL_mem
theorem numberAll_con (env : Env) (a1 a8 : Addr) (he : ChEnv env a1 a8) (c : ChD) (h : Full c) (hsm : Small c) (n : Nat) (hn : n < cntN c (-1)) (hc : cntN c (-1) < 2147483647) : Con Tryz.prog env 50 [tabAV c, .seq 1 ((riseL c (nthF c 40 (-1) n)).map natAV)] (.tuple [I n, nilE]) := by
  have hlen := h.few
  have hN := nth_ok h.toRight 40 (-1) n (by omega) (by omega) hn hc
  have hl := first_len c (nthF c 40 (-1) n)
  have f0 := check29_con env a1 a8 he c h hsm (zL (riseL c (nthF c 40 (-1) n))) (by rw [zL_len]; omega) (zL_ge _)
  unfold chkE at f0
  rw [if_pos (nth_legal h hN)] at f0
  have f1 := countAll_con env c h hsm
  have f2 := tabChart_con env c hsm
  have f3 := flags_con env c (by omega) (zL (riseL c (nthF c 40 (-1) n))) (by rw [zL_len]; omega)
  have f4 := number29_con env c h (zL (riseL c (nthF c 40 (-1) n))) 40 (-1) n (by omega) (by omega) (by omega) hn hc fun x hxl _ => by
    rw [zL_cont, rise_mem]
    exact ⟨fun e => e.2, fun e => ⟨hxl, e⟩⟩
  have hfl := flag_len c.states.length (zL (riseL c (nthF c 40 (-1) n)))
  rw [zL_int] at f0 f3
  have e3 : (((cntN c (-1) : Nat) : Int) == 2147483647) = false := by simp; omega
  try clear hN
  unfold tabAV at f0 f1 f2 f3 f4 ⊢
  generalize flagA c.states.length (zL (riseL c (nthF c 40 (-1) n))) = FL at *
  generalize riseL c (nthF c 40 (-1) n) = R at *
  refine con_of_body Tryz.func50 rfl Tryz.call50 (by rw [Tryz.ntmps50]; simp) ?_
  rw [Tryz.ntmps50, Tryz.results50]
  have F := e3
  repeat (first | refine st ?_ | refine cC f0 ?_ | refine cC f1 ?_ | refine cC f2 ?_ | refine cC f3 ?_ | refine cC f4 ?_)
  exact aR
theorem lawLegalNumbers_con (ad : Nat → Addr) (c : ChD) (hcf : few_ch c) (x y : Int) : Con Tryz.prog (errEnv ad lgMore) 11 [.agg (chAV c), I x, I y] (B true) := by
  have he := lgEnv_ch ad
  have hT := lgEnv_tab ad
  have ha2 : errEnv ad lgMore 1 = some (sentV (ad 2)) := rfl
  have ft := tells29_con ad lgMore 2 (by omega) (-1)
  change Con _ _ _ [_, I 2] _ at ft
  generalize errEnv ad lgMore = env at *
  have fa := awake29_con env _ _ he hT
  have fr := rests29_con env c
  cases hg : goodB c with
  | false =>
    rw [hg] at fr
    have fm := made29_none env c hg
    refine con_of_body Tryz.func11 rfl Tryz.call11 (by rw [Tryz.ntmps11]; simp) ?_
    rw [Tryz.ntmps11, Tryz.results11]
    have F := chAV.eq_1
    repeat (first | refine st ?_ | refine cC fm ?_ | refine cC fr ?_ | refine cC fa ?_)
    exact aR
  | true =>
    have h := good_full hg
    have hlen := h.few
    have hsm := small_of (good_chk hg)
    have fm := made29_con env _ _ he hT c hcf hg
    have f2 := countAll_con env c h hsm
    obtain ⟨hc1, hc2⟩ := cnt_ok h.toRight (i := -1) (by omega)
    obtain ⟨U, hU⟩ := u64_nat x
    obtain ⟨W, hW⟩ := u64_nat y
    have e1 : ¬ ((cntN c (-1) : Nat) : Int) < 1 := by omega
    have hn : U % cntN c (-1) < cntN c (-1) := Nat.mod_lt _ (by omega)
    have hk : W % cntN c (-1) < cntN c (-1) := Nat.mod_lt _ (by omega)
    have k1 : IntKind.u64.wrap ((cntN c (-1) : Nat) : Int) = ((cntN c (-1) : Nat) : Int) := IntWalk.u64_in _ (by omega)
    have k2 := nat_tmod U (cntN c (-1))
    have k3 : IntKind.i64.wrap ((U % cntN c (-1) : Nat) : Int) = ((U % cntN c (-1) : Nat) : Int) := wrap_nat (by omega)
    have k4 := nat_tmod W (cntN c (-1))
    have k5 : IntKind.i64.wrap ((W % cntN c (-1) : Nat) : Int) = ((W % cntN c (-1) : Nat) : Int) := wrap_nat (by omega)
    have m0 : ¬ ((cntN c (-1) : Nat) : Int) = 0 := by omega
    by_cases hc : cntN c (-1) = 2147483647
    · have f3 := pNth_bad env _ ha2 c h hsm ((U % cntN c (-1) : Nat) : Int) (.inr (.inr hc))
      have f4 := pNth_bad env _ ha2 c h hsm ((W % cntN c (-1) : Nat) : Int) (.inr (.inr hc))
      have e3 : (((cntN c (-1) : Nat) : Int) == 2147483647) = true := by simp; omega
      unfold tabAV at fm f2 f3 f4
      generalize cntN c (-1) = m at *
      refine con_of_body Tryz.func11 rfl Tryz.call11 (by rw [Tryz.ntmps11]; simp) ?_
      rw [Tryz.ntmps11, Tryz.results11]
      have F := And.intro chAV.eq_1 <| And.intro e1 <| And.intro e3 <| And.intro hU <| And.intro hW <| And.intro k1 <| And.intro k2 <| And.intro k3 <| And.intro k4 <| And.intro k5 <| m0
      repeat (first | refine st ?_ | refine cC fm ?_ | refine cC fr ?_ | refine cC fa ?_ | refine cC f2 ?_ | refine cC f3 ?_ | refine cC f4 ?_ | refine cC ft ?_)
      exact aR
    · have hc : cntN c (-1) < 2147483647 := by omega
      have e3 : (((cntN c (-1) : Nat) : Int) == 2147483647) = false := by simp; omega
      have f3 := pNth_ok env c h hsm (U % cntN c (-1)) hn hc
      have f4 := pNth_ok env c h hsm (W % cntN c (-1)) hk hc
      rw [show riseL c (nthR c 40 (-1) (U % cntN c (-1))) = riseL c (nthF c 40 (-1) (U % cntN c (-1))) from rise_same fun y => nthR_mem 40 (-1) _ y] at f3
      rw [show riseL c (nthR c 40 (-1) (W % cntN c (-1))) = riseL c (nthF c 40 (-1) (W % cntN c (-1))) from rise_same fun y => nthR_mem 40 (-1) _ y] at f4
      have f5 := numberAll_con env _ _ he c h hsm (U % cntN c (-1)) hn hc
      have hl := first_len c (nthF c 40 (-1) (U % cntN c (-1)))
      have f6 := sameInts_con env (riseL c (nthF c 40 (-1) (U % cntN c (-1)))) (riseL c (nthF c 40 (-1) (W % cntN c (-1)))) (by omega)
      have hq : decide (riseL c (nthF c 40 (-1) (U % cntN c (-1))) = riseL c (nthF c 40 (-1) (W % cntN c (-1)))) = (((U % cntN c (-1) : Nat) : Int) == ((W % cntN c (-1) : Nat) : Int)) := by
        rw [Bool.eq_iff_iff, decide_eq_true_iff, beq_iff_eq]
        constructor
        · intro e
          have := nth_inj h.toRight 40 (-1) _ _ (by omega) (by omega) hn hk hc fun z hz _ => by
            have e2 : z ∈ riseL c (nthF c 40 (-1) (U % cntN c (-1))) ↔ z ∈ riseL c (nthF c 40 (-1) (W % cntN c (-1))) := by rw [e]
            rw [rise_mem, rise_mem] at e2
            exact ⟨fun q => (e2.1 ⟨hz, q⟩).2, fun q => (e2.2 ⟨hz, q⟩).2⟩
          omega
        · intro e
          rw [show U % cntN c (-1) = W % cntN c (-1) by omega]
      rw [hq] at f6
      try clear hq hl
      unfold tabAV at fm f2 f3 f4 f5
      generalize riseL c (nthF c 40 (-1) (U % cntN c (-1))) = R at *
      generalize riseL c (nthF c 40 (-1) (W % cntN c (-1))) = T at *
      generalize cntN c (-1) = m at *
      cases b1 : (((U % m : Nat) : Int) == ((W % m : Nat) : Int)) <;>
      · rw [b1] at f6
        refine con_of_body Tryz.func11 rfl Tryz.call11 (by rw [Tryz.ntmps11]; simp) ?_
        rw [Tryz.ntmps11, Tryz.results11]
        have F := And.intro chAV.eq_1 <| And.intro e1 <| And.intro e3 <| And.intro hU <| And.intro hW <| And.intro k1 <| And.intro k2 <| And.intro k3 <| And.intro k4 <| And.intro k5 <| And.intro m0 <| b1
        repeat (first | refine st ?_ | refine cC fm ?_ | refine cC fr ?_ | refine cC fa ?_ | refine cC f2 ?_ | refine cC f3 ?_ | refine cC f4 ?_ | refine cC f5 ?_ | refine cC f6 ?_)
        exact aR
end Go.Proofs.YthffdneigmbgfaaGreatDoor
