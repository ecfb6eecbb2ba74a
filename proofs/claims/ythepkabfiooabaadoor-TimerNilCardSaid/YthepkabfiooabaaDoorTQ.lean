/- An agenda's heap and map: what putting and pulling make of them. Plain. -/
import Derived.Test.YthepkabfiooabaaDoorTP
namespace Go.Proofs.YthepkabfiooabaaDoor

structure AgOk (l : List Due) (M : Mp) : Prop where
  c : Cons l M
  h : Hp l
theorem AgOk.nil : AgOk [] [] := ⟨⟨by simp, rfl, fun k i => by simp [lookM]⟩, fun j _ x y h => by simp at h⟩
/-- A due in another one's place. -/
def setR (l : List Due) (M : Mp) (d : Due) (i : Nat) : List Due × Mp :=
  downS (upS (l.set i d) (putM M (keyD d) i) i).1 (upS (l.set i d) (putM M (keyD d) i) i).2 ((lookM (keyD d) (upS (l.set i d) (putM M (keyD d) i) i).2).getD 0).toNat
theorem set_at {l : List Due} {i : Nat} {d : Due} (hi : i < l.length) (n : Nat) : (l.set i d)[n]? = if n = i then some d else l[n]? := by
  rw [List.getElem?_set]
  by_cases h : n = i
  · subst h; simp [hi]
  · simp [h, Ne.symm h]
theorem set_pre {l : List Due} {M : Mp} {i : Nat} {d0 d : Due} (h : AgOk l M) (h0 : l[i]? = some d0) (hk : keyD d0 = keyD d) :
    Cons (l.set i d) (putM M (keyD d) i) ∧ HX (l.set i d) i False ∧ ∀ x, x ∈ l.set i d ↔ x = d ∨ (x ∈ l ∧ keyD x ≠ keyD d) := by
  have hi := (List.getElem?_eq_some_iff.1 h0).1
  have hl : lookM (keyD d) M = some (i : Int) := by rw [← hk]; exact h.c.find h0
  have hat := fun n => set_at (d := d) hi n
  refine ⟨⟨by rw [put_keys (by rw [hl]; rfl)]; exact h.c.nd, ?_, fun k v => ?_⟩, ⟨fun j hj hji hD a b h1 h2 => ?_, fun j hj hji h0i a z h1 h2 => ?_⟩, fun x => ?_⟩
  · rw [List.length_set, ← h.c.len, ← List.length_map (f := (·.1)), put_keys (by rw [hl]; rfl), List.length_map]
  · rw [look_put]
    have hsame : (if k = keyD d then some (i : Int) else lookM k M) = lookM k M := by
      split
      · rename_i e; rw [e, hl]
      · rfl
    rw [hsame, h.c.at_]
    constructor
    · rintro ⟨x, n, h1, h2, h3⟩
      by_cases e : n = i
      · subst e
        rw [h0] at h1
        cases h1
        exact ⟨d, n, by rw [hat, if_pos rfl], hk.symm.trans h2, h3⟩
      · exact ⟨x, n, by rw [hat, if_neg e]; exact h1, h2, h3⟩
    · rintro ⟨x, n, h1, h2, h3⟩
      rw [hat] at h1
      split at h1
      · rename_i e
        cases h1
        exact ⟨d0, n, by rw [e]; exact h0, hk.trans h2, h3⟩
      · exact ⟨x, n, h1, h2, h3⟩
  · have hD : (j - 1) / 2 ≠ i := hD
    rw [hat] at h1 h2
    rw [if_neg hji] at h1
    rw [if_neg hD] at h2
    exact h.h j hj a b h1 h2
  · rw [hat] at h1 h2
    rw [if_neg (by omega)] at h1 h2
    exact le_trans' (h.h i h0i d0 z h0 h2) (h.h j hj a d0 h1 (by rw [hji]; exact h0))
  · simp only [List.mem_iff_getElem?, hat]
    constructor
    · rintro ⟨n, hn⟩
      split at hn
      · exact .inl (by simpa using hn.symm)
      · rename_i e
        exact .inr ⟨⟨n, hn⟩, fun e2 => e (h.c.inj hn h0 (e2.trans hk.symm))⟩
    · rintro (rfl | ⟨⟨n, hn⟩, hne⟩)
      · exact ⟨i, by rw [if_pos rfl]⟩
      · refine ⟨n, ?_⟩
        rw [if_neg]
        · exact hn
        · rintro rfl
          rw [h0] at hn
          cases hn
          exact hne hk
/-- What stands between the two steps of putting a due anew. -/
theorem set_mid {l : List Due} {M : Mp} {i : Nat} {d0 d : Due} (h : AgOk l M) (h0 : l[i]? = some d0) (hk : keyD d0 = keyD d) :
    ∃ p : Nat, lookM (keyD d) (upS (l.set i d) (putM M (keyD d) i) i).2 = some (p : Int) ∧ p < (upS (l.set i d) (putM M (keyD d) i) i).1.length ∧ (upS (l.set i d) (putM M (keyD d) i) i).1.length = l.length := by
  have hi := (List.getElem?_eq_some_iff.1 h0).1
  obtain ⟨q1, q2, q3⟩ := set_pre h h0 hk
  obtain ⟨k1, k2, k3, p, k4, k5, k6⟩ := up_spec False i _ _ q1 (by rw [List.length_set]; exact hi) q2
  rw [List.length_set] at k3 k4
  exact ⟨p, k1.find (by rw [k5, set_at hi, if_pos rfl]), by rw [k3]; exact k4, k3⟩
theorem set_spec {l : List Due} {M : Mp} {i : Nat} {d0 d : Due} (h : AgOk l M) (h0 : l[i]? = some d0) (hk : keyD d0 = keyD d) :
    AgOk (setR l M d i).1 (setR l M d i).2 ∧ (∀ x, x ∈ (setR l M d i).1 ↔ x = d ∨ (x ∈ l ∧ keyD x ≠ keyD d)) ∧ (setR l M d i).1.length = l.length := by
  have hi := (List.getElem?_eq_some_iff.1 h0).1
  obtain ⟨q1, q2, q3⟩ := set_pre h h0 hk
  obtain ⟨k1, k2, k3, p, k4, k5, k6⟩ := up_spec False i _ _ q1 (by rw [List.length_set]; exact hi) q2
  rw [List.length_set] at k3 k4
  have hl := k1.find (show _ = some d by rw [k5, set_at hi, if_pos rfl])
  unfold setR
  rw [hl]
  simp only [Option.getD_some, Int.toNat_natCast]
  obtain ⟨r1, r2, r3, r4⟩ := down_spec _ p _ _ (Nat.le_refl _) k1 (by rw [k3]; exact k4) k6
  exact ⟨⟨r1, r4⟩, fun x => (r2 x).trans ((k2 x).trans (q3 x)), r3.trans k3⟩
/-- A due more. -/
def addR (l : List Due) (M : Mp) (d : Due) : List Due × Mp := upS (l ++ [d]) (M ++ [(keyD d, (l.length : Int))]) l.length
theorem app_at (l : List Due) (d : Due) (n : Nat) : (l ++ [d])[n]? = if n = l.length then some d else l[n]? := by
  by_cases h : n = l.length
  · subst h; simp
  · rw [if_neg h]
    rcases Nat.lt_or_gt_of_ne h with h | h
    · rw [List.getElem?_append_left h]
    · rw [List.getElem?_eq_none (by simp; omega), List.getElem?_eq_none (by omega)]
theorem add_spec {l : List Due} {M : Mp} {d : Due} (h : AgOk l M) (h0 : lookM (keyD d) M = none) :
    AgOk (addR l M d).1 (addR l M d).2 ∧ (∀ x, x ∈ (addR l M d).1 ↔ x = d ∨ (x ∈ l ∧ keyD x ≠ keyD d)) ∧ (addR l M d).1.length = l.length + 1 := by
  have hno := h.c.none_.1 h0
  have q1 : Cons (l ++ [d]) (M ++ [(keyD d, (l.length : Int))]) := by
    refine ⟨?_, by simp [h.c.len], fun k v => ?_⟩
    · rw [List.map_append, List.nodup_append]
      refine ⟨h.c.nd, by simp, fun a ha b hb => ?_⟩
      simp only [List.map_cons, List.map_nil, List.mem_singleton] at hb
      rintro rfl
      exact look_mem.1 h0 (hb ▸ ha)
    · rw [← put_new h0, look_put]
      constructor
      · intro hv
        split at hv
        · rename_i e
          cases hv
          exact ⟨d, l.length, by rw [app_at, if_pos rfl], e.symm, rfl⟩
        · obtain ⟨x, n, h1, h2, h3⟩ := (h.c.at_ k v).1 hv
          have := (List.getElem?_eq_some_iff.1 h1).1
          exact ⟨x, n, by rw [app_at, if_neg (by omega)]; exact h1, h2, h3⟩
      · rintro ⟨x, n, h1, h2, h3⟩
        rw [app_at] at h1
        split at h1
        · rename_i e
          cases h1
          rw [if_pos h2.symm, h3, e]
        · rw [if_neg (fun e => hno x (List.mem_of_getElem? h1) (h2.trans e)), h3, ← h2]
          exact h.c.find h1
  have q2 : HX (l ++ [d]) l.length True := by
    refine ⟨fun j hj hjl _ a b h1 h2 => ?_, fun j hj hjl h0l a z h1 h2 => ?_⟩
    · rw [app_at, if_neg hjl] at h1
      have := (List.getElem?_eq_some_iff.1 h1).1
      rw [app_at, if_neg (by omega)] at h2
      exact h.h j hj a b h1 h2
    · have := (List.getElem?_eq_some_iff.1 h1).1
      simp at this
      omega
  obtain ⟨k1, k2, k3, p, k4, k5, k6⟩ := up_spec True l.length _ _ q1 (by simp) q2
  refine ⟨⟨k1, fun j hj => k6.1 j hj (fun _ => trivial)⟩, fun x => (k2 x).trans ?_, by unfold addR; rw [k3]; simp⟩
  simp only [List.mem_append, List.mem_singleton]
  constructor
  · rintro (h1 | h1)
    · exact .inr ⟨h1, hno x h1⟩
    · exact .inl h1
  · rintro (h1 | ⟨h1, _⟩)
    · exact .inr h1
    · exact .inl h1
/-- A due at a place goes: ahead of the two steps. -/
def cutL (l : List Due) (i : Nat) (d y : Due) : List Due := (swapL l i (l.length - 1) d y).take (l.length - 1)
def cutM (l : List Due) (M : Mp) (i : Nat) (d y : Due) : Mp := delM (swapM M i (l.length - 1) d y) (keyD d)
def pullR (l : List Due) (M : Mp) (i : Nat) : List Due × Mp := match l[i]?, l[l.length - 1]? with
  | some d, some y => if i < l.length - 1 then
      downS (upS (cutL l i d y) (cutM l M i d y) i).1 (upS (cutL l i d y) (cutM l M i d y) i).2 ((lookM (keyD y) (upS (cutL l i d y) (cutM l M i d y) i).2).getD 0).toNat
    else (cutL l i d y, cutM l M i d y)
  | _, _ => (l, M)
theorem cut_at {l : List Due} {i : Nat} {d y : Due} (hi : i < l.length) (n : Nat) : (cutL l i d y)[n]? = if n < l.length - 1 then (if n = i then some y else l[n]?) else none := by
  unfold cutL
  rw [List.getElem?_take]
  by_cases h : n < l.length - 1
  · rw [if_pos h, if_pos h, swapL_at hi (by omega), if_neg (by omega)]
  · rw [if_neg h, if_neg h]
theorem cut_len {l : List Due} {i : Nat} {d y : Due} : (cutL l i d y).length = l.length - 1 := by
  unfold cutL
  rw [List.length_take, swapL_len]
  omega
theorem cut_pre {l : List Due} {M : Mp} {i : Nat} {d y : Due} (h : AgOk l M) (h0 : l[i]? = some d) (h1 : l[l.length - 1]? = some y) :
    Cons (cutL l i d y) (cutM l M i d y) ∧ HX (cutL l i d y) i False ∧ (¬ i < l.length - 1 → Hp (cutL l i d y)) ∧ ∀ x, x ∈ cutL l i d y ↔ x ∈ l ∧ keyD x ≠ keyD d := by
  have hi := (List.getElem?_eq_some_iff.1 h0).1
  have hat := fun n => cut_at (d := d) (y := y) hi n
  have hs := h.c.swap h0 h1
  have hsat := fun n => swapL_at (x := d) (y := y) hi (show l.length - 1 < l.length by omega) n
  refine ⟨⟨?_, ?_, fun k v => ?_⟩, ⟨fun j hj hji hD a b h2 h3 => ?_, fun j hj hji h0i a z h2 h3 => ?_⟩, fun hge j hj a b h2 h3 => ?_, fun x => ?_⟩
  · exact ((del_sub _ _).map _).nodup hs.nd
  · have := del_len (k := keyD d) (M := swapM M i (l.length - 1) d y) (by rw [hs.find (show (swapL l i (l.length - 1) d y)[l.length - 1]? = some d by rw [hsat, if_pos rfl])]; rfl)
    rw [hs.len, swapL_len] at this
    rw [cut_len]
    unfold cutM
    omega
  · unfold cutM
    rw [look_del _ _ hs.nd]
    constructor
    · intro hv
      split at hv
      · cases hv
      · rename_i e
        obtain ⟨x, n, h2, h3, h4⟩ := (hs.at_ k v).1 hv
        refine ⟨x, n, ?_, h3, h4⟩
        have hlt := (List.getElem?_eq_some_iff.1 h2).1
        rw [swapL_len] at hlt
        have hne : n ≠ l.length - 1 := by
          rintro rfl
          rw [hsat, if_pos rfl] at h2
          cases h2
          exact e h3.symm
        unfold cutL
        rw [List.getElem?_take, if_pos (by omega)]
        exact h2
    · rintro ⟨x, n, h2, h3, h4⟩
      unfold cutL at h2
      rw [List.getElem?_take] at h2
      split at h2
      · rename_i hn
        rw [if_neg, h4, ← h3]
        · exact hs.find h2
        · intro e
          have := hs.inj h2 (show (swapL l i (l.length - 1) d y)[l.length - 1]? = some d by rw [hsat, if_pos rfl]) (h3.trans e)
          omega
      · cases h2
  · have hD : (j - 1) / 2 ≠ i := hD
    rw [hat] at h2 h3
    split at h2
    · rw [if_pos (by omega), if_neg hD] at h3
      exact h.h j hj a b h2 h3
    · cases h2
  · rw [hat] at h2 h3
    split at h2
    · rw [if_neg (by omega)] at h2
      rw [if_pos (by omega), if_neg (by omega)] at h3
      exact le_trans' (h.h i h0i d z h0 h3) (h.h j hj a d h2 (by rw [hji]; exact h0))
    · cases h2
  · rw [hat] at h2 h3
    split at h2
    · rw [if_neg (by omega)] at h2
      rw [if_pos (by omega), if_neg (by omega)] at h3
      exact h.h j hj a b h2 h3
    · cases h2
  · simp only [List.mem_iff_getElem?, hat]
    constructor
    · rintro ⟨n, hn⟩
      split at hn
      · rename_i hlt
        split at hn
        · rename_i e
          cases hn
          refine ⟨⟨_, h1⟩, fun e2 => ?_⟩
          have := h.c.inj h1 h0 e2
          omega
        · rename_i e
          exact ⟨⟨n, hn⟩, fun e2 => e (h.c.inj hn h0 e2)⟩
      · cases hn
    · rintro ⟨⟨n, hn⟩, hne⟩
      have hlt := (List.getElem?_eq_some_iff.1 hn).1
      have hni : n ≠ i := by
        rintro rfl
        rw [h0] at hn
        cases hn
        exact hne rfl
      by_cases e : n = l.length - 1
      · have hil : i < l.length - 1 := by omega
        subst e
        rw [h1] at hn
        exact ⟨i, by rw [if_pos hil, if_pos rfl]; exact hn⟩
      · exact ⟨n, by rw [if_pos (by omega), if_neg hni]; exact hn⟩
theorem pull_mid {l : List Due} {M : Mp} {i : Nat} {d y : Due} (h : AgOk l M) (h0 : l[i]? = some d) (h1 : l[l.length - 1]? = some y) (hlt : i < l.length - 1) :
    ∃ p : Nat, lookM (keyD y) (upS (cutL l i d y) (cutM l M i d y) i).2 = some (p : Int) ∧ p < (upS (cutL l i d y) (cutM l M i d y) i).1.length ∧ (upS (cutL l i d y) (cutM l M i d y) i).1.length = l.length - 1 ∧ (cutL l i d y)[i]? = some y := by
  have hi := (List.getElem?_eq_some_iff.1 h0).1
  obtain ⟨q1, q2, -, q3⟩ := cut_pre h h0 h1
  obtain ⟨k1, k2, k3, p, k4, k5, k6⟩ := up_spec False i _ _ q1 (by rw [cut_len]; exact hlt) q2
  rw [cut_len] at k3 k4
  exact ⟨p, k1.find (by rw [k5, cut_at hi, if_pos hlt, if_pos rfl]), by rw [k3]; exact k4, k3, by rw [cut_at hi, if_pos hlt, if_pos rfl]⟩
theorem pull_spec {l : List Due} {M : Mp} {i : Nat} {d : Due} (h : AgOk l M) (h0 : l[i]? = some d) :
    AgOk (pullR l M i).1 (pullR l M i).2 ∧ (∀ x, x ∈ (pullR l M i).1 ↔ x ∈ l ∧ keyD x ≠ keyD d) ∧ (pullR l M i).1.length + 1 = l.length := by
  have hi := (List.getElem?_eq_some_iff.1 h0).1
  obtain ⟨y, h1⟩ : ∃ y, l[l.length - 1]? = some y := ⟨l[l.length - 1], List.getElem?_eq_getElem (by omega)⟩
  obtain ⟨q1, q2, q4, q3⟩ := cut_pre h h0 h1
  unfold pullR
  rw [h0, h1]
  simp only
  by_cases hlt : i < l.length - 1
  · rw [if_pos hlt]
    obtain ⟨k1, k2, k3, p, k4, k5, k6⟩ := up_spec False i _ _ q1 (by rw [cut_len]; exact hlt) q2
    rw [cut_len] at k3 k4
    have hl := k1.find (show _ = some y by rw [k5, cut_at hi, if_pos hlt, if_pos rfl])
    rw [hl]
    simp only [Option.getD_some, Int.toNat_natCast]
    obtain ⟨r1, r2, r3, r4⟩ := down_spec _ p _ _ (Nat.le_refl _) k1 (by rw [k3]; exact k4) k6
    exact ⟨⟨r1, r4⟩, fun x => (r2 x).trans ((k2 x).trans (q3 x)), by rw [r3, k3]; omega⟩
  · rw [if_neg hlt]
    exact ⟨⟨q1, q4 hlt⟩, q3, by rw [cut_len]; omega⟩
theorem AgOk.root {l : List Due} {M : Mp} {d : Due} (h : AgOk l M) (h0 : l[0]? = some d) : ∀ (n : Nat) (x : Due), l[n]? = some x → dueLess x d = false := by
  intro n
  induction n using Nat.strongRecOn with
  | _ n ih =>
    intro x hx
    by_cases hn : n = 0
    · subst hn
      rw [h0] at hx
      cases hx
      exact due_irrefl _
    · have hlt := (List.getElem?_eq_some_iff.1 hx).1
      obtain ⟨y, hy⟩ : ∃ y, l[(n - 1) / 2]? = some y := ⟨l[(n - 1) / 2]'(by omega), List.getElem?_eq_getElem (by omega)⟩
      exact le_trans' (ih _ (half_lt (by omega)) y hy) (h.h n (by omega) x y hx hy)
theorem AgOk.nodup {l : List Due} {M : Mp} (h : AgOk l M) : l.Nodup := by
  rw [List.nodup_iff_pairwise_ne, List.pairwise_iff_getElem]
  intro i j hi hj hij e
  have := h.c.inj (List.getElem?_eq_getElem hi) (List.getElem?_eq_getElem hj) (by rw [e])
  omega
end Go.Proofs.YthepkabfiooabaaDoor
