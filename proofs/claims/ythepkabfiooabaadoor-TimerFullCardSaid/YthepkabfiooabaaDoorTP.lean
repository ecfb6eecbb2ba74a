/- An agenda's heap and map: what up and down make of them. Plain. -/
import Derived.Test.YthepkabfiooabaaDoorTH
namespace Go.Proofs.YthepkabfiooabaaDoor

theorem sameD_true {a b : Due} (h : sameD a b = true) : a = b := by
  obtain ⟨a1, a2, a3⟩ := a
  obtain ⟨b1, b2, b3⟩ := b
  simp only [sameD, Bool.and_eq_true, beq_iff_eq] at h
  obtain ⟨rfl, rfl, rfl⟩ := h
  rfl
theorem due_irrefl (a : Due) : dueLess a a = false := by
  rcases due_three a a with ⟨h1, h2, _⟩ | ⟨h1, h2, _⟩ | ⟨h1, _, _⟩
  · rw [h1] at h2; cases h2
  · exact h1
  · exact h1
theorem due_asymm {a b : Due} (h : dueLess a b = true) : dueLess b a = false := by
  rcases due_three a b with ⟨_, h2, _⟩ | ⟨h1, _, _⟩ | ⟨h1, _, _⟩
  · exact h2
  · rw [h] at h1; cases h1
  · rw [h] at h1; cases h1
theorem due_anti {a b : Due} (h1 : dueLess a b = false) (h2 : dueLess b a = false) : a = b := by
  rcases due_three a b with ⟨h, _, _⟩ | ⟨_, h, _⟩ | ⟨_, _, h⟩
  · rw [h1] at h; cases h
  · rw [h2] at h; cases h
  · exact sameD_true h
/-- le a b: b is not ahead of a. -/
theorem le_trans' {a b c : Due} (h1 : dueLess b a = false) (h2 : dueLess c b = false) : dueLess c a = false := by
  cases h : dueLess c a
  · rfl
  rcases due_three a b with ⟨k, _, _⟩ | ⟨_, k, _⟩ | ⟨_, _, k⟩
  · rw [due_trans h k] at h2; cases h2
  · rw [h1] at k; cases k
  · rw [sameD_true k] at h; rw [h2] at h; cases h

theorem swapL_at {l : List Due} {i k : Nat} {x y : Due} (hi : i < l.length) (hk : k < l.length) (n : Nat) : (swapL l i k x y)[n]? = if n = k then some x else if n = i then some y else l[n]? := by
  unfold swapL
  rw [List.getElem?_set, List.getElem?_set, List.length_set]
  by_cases h1 : n = k
  · subst h1; simp [hk]
  · by_cases h2 : n = i
    · subst h2; simp [h1, Ne.symm h1, hi]
    · simp [h1, h2, Ne.symm h1, Ne.symm h2]
theorem swapL_mem {l : List Due} {i k : Nat} {x y : Due} (hx : l[i]? = some x) (hy : l[k]? = some y) (d : Due) : d ∈ swapL l i k x y ↔ d ∈ l := by
  have hi := (List.getElem?_eq_some_iff.1 hx).1
  have hk := (List.getElem?_eq_some_iff.1 hy).1
  simp only [List.mem_iff_getElem?, swapL_at hi hk]
  constructor
  · rintro ⟨n, h⟩
    split at h
    · exact ⟨i, hx.trans h⟩
    · split at h
      · exact ⟨k, hy.trans h⟩
      · exact ⟨n, h⟩
  · rintro ⟨n, h⟩
    by_cases h1 : n = i
    · subst h1; exact ⟨k, by rw [if_pos rfl, ← hx]; exact h⟩
    · by_cases h2 : n = k
      · subst h2; exact ⟨i, by rw [if_neg (Ne.symm h1), if_pos rfl, ← hy]; exact h⟩
      · exact ⟨n, by rw [if_neg h2, if_neg h1]; exact h⟩

/-- What a map says of a key. -/
def lookM (k : Wh) : Mp → Option Int
  | [] => none
  | p :: M => if k = p.1 then some p.2 else lookM k M
theorem idxM_shift (k : Wh) : ∀ (M : Mp) (i : Nat), idxM k M (i + 1) = (idxM k M i).map (· + 1)
  | [], i => rfl
  | p :: M, i => by
    simp only [idxM]
    split
    · rfl
    · exact idxM_shift k M (i + 1)
theorem look_some {k : Wh} : ∀ {M : Mp} {v : Int}, lookM k M = some v → ∃ j, idxM k M 0 = some j ∧ M[j]? = some (k, v)
  | [], v, h => by cases h
  | p :: M, v, h => by
    simp only [lookM] at h
    simp only [idxM]
    split at h
    · rename_i e
      subst e
      cases h
      exact ⟨0, by rw [if_pos rfl], rfl⟩
    · rename_i e
      obtain ⟨j, h1, h2⟩ := look_some h
      exact ⟨j + 1, by rw [if_neg e, idxM_shift, h1]; rfl, by simpa using h2⟩
theorem look_none {k : Wh} : ∀ {M : Mp}, lookM k M = none → idxM k M 0 = none
  | [], _ => rfl
  | p :: M, h => by
    simp only [lookM] at h
    simp only [idxM]
    split at h
    · cases h
    · rename_i e
      rw [if_neg e, idxM_shift, look_none h]; rfl
theorem putM_nil (k : Wh) (v : Int) : putM [] k v = [(k, v)] := rfl
theorem putM_cons (p : Wh × Int) (M : Mp) (k : Wh) (v : Int) : putM (p :: M) k v = if k = p.1 then (k, v) :: M else p :: putM M k v := by
  unfold putM
  simp only [idxM]
  by_cases e : k = p.1
  · rw [if_pos e, if_pos e]; rfl
  · rw [if_neg e, if_neg e, idxM_shift]
    cases idxM k M 0 <;> rfl
theorem look_put (k k' : Wh) (v : Int) : ∀ M : Mp, lookM k' (putM M k v) = if k' = k then some v else lookM k' M
  | [] => rfl
  | p :: M => by
    rw [putM_cons]
    by_cases e : k = p.1
    · rw [if_pos e]
      simp only [lookM]
      by_cases e2 : k' = k
      · rw [if_pos e2, if_pos e2]
      · rw [if_neg e2, if_neg e2, if_neg (fun h => e2 (h.trans e.symm))]
    · rw [if_neg e]
      simp only [lookM, look_put k k' v M]
      by_cases e2 : k' = p.1
      · rw [if_pos e2, if_pos e2, if_neg (fun h => e (h.symm.trans e2))]
      · rw [if_neg e2, if_neg e2]
theorem look_mem {k : Wh} : ∀ {M : Mp}, lookM k M = none ↔ k ∉ M.map (·.1)
  | [] => by simp [lookM]
  | p :: M => by
    have ih := look_mem (k := k) (M := M)
    simp only [lookM, List.map_cons, List.mem_cons, not_or]
    by_cases e : k = p.1
    · simp [e]
    · simp only [if_neg e, ih]; simp [e]
theorem put_keys {k : Wh} {v : Int} : ∀ {M : Mp}, (lookM k M).isSome = true → (putM M k v).map (·.1) = M.map (·.1)
  | [], h => by simp [lookM] at h
  | p :: M, h => by
    rw [putM_cons]
    by_cases e : k = p.1
    · rw [if_pos e, e]; simp
    · rw [if_neg e]
      simp only [lookM, if_neg e] at h
      simp only [List.map_cons, put_keys h]
theorem put_new {k : Wh} {v : Int} {M : Mp} (h : lookM k M = none) : putM M k v = M ++ [(k, v)] := by unfold putM; rw [look_none h]
/-- A map without a key. -/
def delM (M : Mp) (k : Wh) : Mp := match idxM k M 0 with
  | some j => M.eraseIdx j
  | none => M
theorem delM_cons (p : Wh × Int) (M : Mp) (k : Wh) : delM (p :: M) k = if k = p.1 then M else p :: delM M k := by
  unfold delM
  simp only [idxM]
  by_cases e : k = p.1
  · rw [if_pos e, if_pos e]; rfl
  · rw [if_neg e, if_neg e, idxM_shift]
    cases idxM k M 0 <;> rfl
theorem look_del (k k' : Wh) : ∀ {M : Mp}, (M.map (·.1)).Nodup → lookM k' (delM M k) = if k' = k then none else lookM k' M
  | [], _ => by simp [delM, idxM, lookM]
  | p :: M, h => by
    obtain ⟨h1, h2⟩ := List.nodup_cons.1 (by simpa only [List.map_cons] using h)
    rw [delM_cons]
    by_cases e : k = p.1
    · rw [if_pos e]
      simp only [lookM]
      by_cases e2 : k' = k
      · rw [if_pos e2]; exact look_mem.2 (by rw [e2, e]; exact h1)
      · rw [if_neg e2, if_neg (fun h => e2 (h.trans e.symm))]
    · rw [if_neg e]
      simp only [lookM, look_del k k' h2]
      by_cases e2 : k' = p.1
      · rw [if_pos e2, if_pos e2, if_neg (fun h => e (h.symm.trans e2))]
      · rw [if_neg e2, if_neg e2]
theorem del_sub (k : Wh) : ∀ M : Mp, (delM M k).Sublist M
  | [] => .slnil
  | p :: M => by
    rw [delM_cons]
    split
    · exact List.sublist_cons_self _ _
    · exact (del_sub k M).cons_cons _
theorem del_len {k : Wh} : ∀ {M : Mp}, (lookM k M).isSome = true → (delM M k).length + 1 = M.length
  | [], h => by simp [lookM] at h
  | p :: M, h => by
    rw [delM_cons]
    by_cases e : k = p.1
    · rw [if_pos e]; simp
    · rw [if_neg e]
      simp only [lookM, if_neg e] at h
      simp [del_len h]

/-- The map says where each due of the heap stands. -/
structure Cons (l : List Due) (M : Mp) : Prop where
  nd : (M.map (·.1)).Nodup
  len : M.length = l.length
  at_ : ∀ (k : Wh) (i : Int), lookM k M = some i ↔ ∃ (d : Due) (n : Nat), l[n]? = some d ∧ keyD d = k ∧ i = n
theorem Cons.find {l : List Due} {M : Mp} (h : Cons l M) {n : Nat} {d : Due} (hd : l[n]? = some d) : lookM (keyD d) M = some (n : Int) := (h.at_ _ _).2 ⟨d, n, hd, rfl, rfl⟩
theorem Cons.inj {l : List Due} {M : Mp} (h : Cons l M) {i k : Nat} {x y : Due} (hx : l[i]? = some x) (hy : l[k]? = some y) (e : keyD x = keyD y) : i = k := by
  have h1 := h.find hx
  have h2 := h.find hy
  rw [e, h2] at h1
  simp only [Option.some.injEq] at h1
  omega
theorem Cons.none_ {l : List Due} {M : Mp} (h : Cons l M) {k : Wh} : lookM k M = none ↔ ∀ d ∈ l, keyD d ≠ k := by
  constructor
  · intro hn d hd e
    obtain ⟨n, hn'⟩ := List.mem_iff_getElem?.1 hd
    have := h.find hn'
    rw [e, hn] at this
    cases this
  · intro ha
    cases hc : lookM k M with
    | none => rfl
    | some i =>
      obtain ⟨d, n, h1, h2, _⟩ := (h.at_ k i).1 hc
      exact absurd h2 (ha d (List.mem_of_getElem? h1))
theorem Cons.swap {l : List Due} {M : Mp} (h : Cons l M) {i k : Nat} {x y : Due} (hx : l[i]? = some x) (hy : l[k]? = some y) : Cons (swapL l i k x y) (swapM M i k x y) := by
  have hi := (List.getElem?_eq_some_iff.1 hx).1
  have hk := (List.getElem?_eq_some_iff.1 hy).1
  have l1 : (lookM (keyD y) M).isSome = true := by rw [h.find hy]; rfl
  have l2 : (lookM (keyD x) (putM M (keyD y) i)).isSome = true := by
    rw [look_put]
    split
    · rfl
    · rw [h.find hx]; rfl
  have hkeys : (swapM M i k x y).map (·.1) = M.map (·.1) := by
    show (putM (putM M (keyD y) i) (keyD x) k).map (·.1) = _
    rw [put_keys l2, put_keys l1]
  refine ⟨by rw [hkeys]; exact h.nd, ?_, fun q v => ?_⟩
  · rw [swapL_len, ← h.len, ← List.length_map (f := (·.1)), hkeys, List.length_map]
  show lookM q (putM (putM M (keyD y) i) (keyD x) k) = some v ↔ _
  rw [look_put, look_put]
  simp only [swapL_at hi hk]
  constructor
  · intro hv
    split at hv
    · rename_i e
      cases hv
      exact ⟨x, k, by rw [if_pos rfl], e.symm, rfl⟩
    · rename_i e
      split at hv
      · rename_i e2
        cases hv
        refine ⟨y, i, ?_, e2.symm, rfl⟩
        rw [if_neg, if_pos rfl]
        rintro rfl
        rw [hx] at hy
        cases hy
        exact e e2
      · rename_i e2
        obtain ⟨d, n, h1, h2, h3⟩ := (h.at_ q v).1 hv
        refine ⟨d, n, ?_, h2, h3⟩
        rw [if_neg, if_neg]
        · exact h1
        · rintro rfl
          rw [hx] at h1
          cases h1
          exact e h2.symm
        · rintro rfl
          rw [hy] at h1
          cases h1
          exact e2 h2.symm
  · rintro ⟨d, n, h1, h2, h3⟩
    split at h1
    · rename_i e
      cases h1
      rw [if_pos h2.symm, h3, e]
    · rename_i e
      split at h1
      · rename_i e2
        cases h1
        have : ¬ q = keyD x := fun e3 => e (e2.trans (h.inj hx hy (e3.symm.trans h2.symm)))
        rw [if_neg this, if_pos h2.symm, h3, e2]
      · rename_i e2
        have k1 : ¬ q = keyD x := fun e3 => e2 (h.inj h1 hx (h2.trans e3))
        have k2 : ¬ q = keyD y := fun e3 => e (h.inj h1 hy (h2.trans e3))
        rw [if_neg k1, if_neg k2, h3, ← h2]
        exact h.find h1

/-- A place is not ahead of what is above it. -/
def okH (l : List Due) (j : Nat) : Prop := ∀ x y, l[j]? = some x → l[(j - 1) / 2]? = some y → dueLess x y = false
def Hp (l : List Due) : Prop := ∀ j, 0 < j → okH l j
/-- What is beneath a place is not ahead of what is above it. -/
def HZ (l : List Due) (i : Nat) : Prop := ∀ j, 0 < j → (j - 1) / 2 = i → 0 < i → ∀ x z, l[j]? = some x → l[(i - 1) / 2]? = some z → dueLess x z = false
def HX (l : List Due) (i : Nat) (D : Prop) : Prop := (∀ j, 0 < j → j ≠ i → ((j - 1) / 2 = i → D) → okH l j) ∧ HZ l i
def HY (l : List Due) (i : Nat) (D : Prop) : Prop := (∀ j, 0 < j → ((j - 1) / 2 = i → D) → okH l j) ∧ HZ l i
theorem up_spec (D : Prop) : ∀ (i : Nat) (l : List Due) (M : Mp), Cons l M → i < l.length → HX l i D →
    Cons (upS l M i).1 (upS l M i).2 ∧ (∀ d, d ∈ (upS l M i).1 ↔ d ∈ l) ∧ (upS l M i).1.length = l.length ∧ ∃ p, p < l.length ∧ (upS l M i).1[p]? = l[i]? ∧ HY (upS l M i).1 p D := by
  intro i
  induction i using Nat.strongRecOn with
  | _ i ih =>
    intro l M hc hi hX
    by_cases h0 : 0 < i
    · obtain ⟨x, hx⟩ : ∃ x, l[i]? = some x := ⟨l[i], List.getElem?_eq_getElem hi⟩
      have hq : (i - 1) / 2 < l.length := by omega
      obtain ⟨y, hy⟩ : ∃ y, l[(i - 1) / 2]? = some y := ⟨l[(i - 1) / 2], List.getElem?_eq_getElem hq⟩
      cases hd : dueLess x y
      · rw [upS_stay h0 hx hy hd]
        refine ⟨hc, fun _ => Iff.rfl, rfl, i, hi, rfl, ⟨fun j hj hD => ?_, hX.2⟩⟩
        by_cases e : j = i
        · subst e
          intro x' y' h1 h2
          rw [hx] at h1; rw [hy] at h2
          cases h1; cases h2
          exact hd
        · exact hX.1 j hj e hD
      · rw [upS_go h0 hx hy hd]
        have hqi : (i - 1) / 2 < i := half_lt h0
        generalize hqe : (i - 1) / 2 = q at *
        have hat := fun n => swapL_at (x := x) (y := y) hi hq n
        have hX1 : HX (swapL l i q x y) q D := by
          refine ⟨fun j hj hjq hD a b h1 h2 => ?_, fun j hj hjq h0q a z h1 h2 => ?_⟩
          · rw [hat] at h1 h2
            rw [if_neg hjq] at h1
            by_cases e : j = i
            · rw [if_pos e] at h1
              rw [e, hqe, if_pos rfl] at h2
              cases h1; cases h2
              exact due_asymm hd
            · rw [if_neg e] at h1
              by_cases e1 : (j - 1) / 2 = q
              · rw [if_pos e1] at h2
                cases h2
                have := hX.1 j hj e (fun e2 => by omega) a y h1 (by rw [e1]; exact hy)
                exact le_trans' (due_asymm hd) this
              · rw [if_neg e1] at h2
                by_cases e2 : (j - 1) / 2 = i
                · rw [if_pos e2] at h2
                  cases h2
                  exact hX.2 j hj e2 h0 a y h1 (by rw [hqe]; exact hy)
                · rw [if_neg e2] at h2
                  exact hX.1 j hj e (fun e3 => absurd e3 e2) a b h1 h2
          · rw [hat] at h1 h2
            have hlt : (q - 1) / 2 < q := half_lt h0q
            rw [if_neg (by omega), if_neg (by omega)] at h2
            have hqok := hX.1 q h0q (by omega) (fun e => by omega) y z hy h2
            rw [if_neg (by omega)] at h1
            by_cases e : j = i
            · rw [if_pos e] at h1
              cases h1
              exact hqok
            · rw [if_neg e] at h1
              exact le_trans' hqok (hX.1 j hj e (fun e2 => by omega) a y h1 (by rw [hjq]; exact hy))
        obtain ⟨k1, k2, k3, p, k4, k5, k6⟩ := ih q hqi (swapL l i q x y) (swapM M i q x y) (hc.swap hx hy) (by rw [swapL_len]; exact hq) hX1
        rw [swapL_len] at k3 k4
        refine ⟨k1, fun d => (k2 d).trans (swapL_mem hx hy d), k3, p, k4, ?_, k6⟩
        rw [k5, hat, if_pos rfl, hx]
    · have e : i = 0 := by omega
      subst e
      rw [upS_zero]
      exact ⟨hc, fun _ => Iff.rfl, rfl, 0, hi, rfl, ⟨fun j hj hD => hX.1 j hj (by omega) hD, hX.2⟩⟩
theorem bk_le (l : List Due) (i : Nat) : ∀ n, (∀ m, m < n → ∀ x y, l[2 * i + 1 + m]? = some x → l[bk l i n]? = some y → dueLess x y = false) ∧ ∀ x y, l[i]? = some x → l[bk l i n]? = some y → dueLess x y = false
  | 0 => ⟨fun m hm => by omega, fun x y h1 h2 => by
    have h2 : l[i]? = some y := h2
    rw [h1] at h2; cases h2; exact due_irrefl _⟩
  | n + 1 => by
    obtain ⟨ih1, ih2⟩ := bk_le l i n
    have hb : bk l i (n + 1) = if condL l (2 * i + 1 + n) (bk l i n) = true then 2 * i + 1 + n else bk l i n := rfl
    by_cases hc : condL l (2 * i + 1 + n) (bk l i n) = true
    · rw [if_pos hc] at hb
      rw [hb]
      obtain ⟨c1, c2⟩ := condL_lt hc
      have e1 := List.getElem?_eq_getElem c1
      have e2 := List.getElem?_eq_getElem c2
      have hlt : dueLess l[2 * i + 1 + n] l[bk l i n] = true := by
        unfold condL at hc
        rw [e1, e2] at hc
        exact hc
      refine ⟨fun m hm x y h1 h2 => ?_, fun x y h1 h2 => ?_⟩
      · rw [e1] at h2
        cases h2
        by_cases e : m = n
        · subst e
          rw [e1] at h1
          cases h1
          exact due_irrefl _
        · exact le_trans' (due_asymm hlt) (ih1 m (by omega) x _ h1 e2)
      · rw [e1] at h2
        cases h2
        exact le_trans' (due_asymm hlt) (ih2 x _ h1 e2)
    · rw [if_neg hc] at hb
      rw [hb]
      refine ⟨fun m hm x y h1 h2 => ?_, ih2⟩
      by_cases e : m = n
      · subst e
        unfold condL at hc
        rw [h1, h2] at hc
        simpa using hc
      · exact ih1 m (by omega) x y h1 h2
theorem bk_par (l : List Due) (i : Nat) : bk l i 2 = i ∨ bk l i 2 = 2 * i + 1 ∨ bk l i 2 = 2 * i + 2 := by
  have h2 : bk l i 2 = if condL l (2 * i + 1 + 1) (bk l i 1) = true then 2 * i + 1 + 1 else bk l i 1 := rfl
  have h1 : bk l i 1 = if condL l (2 * i + 1 + 0) i = true then 2 * i + 1 + 0 else i := rfl
  rw [h2]
  split
  · exact .inr (.inr rfl)
  · rw [h1]
    split
    · exact .inr (.inl rfl)
    · exact .inl rfl
theorem kid_of {i j : Nat} (hj : 0 < j) (h : (j - 1) / 2 = i) : j = 2 * i + 1 + 0 ∨ j = 2 * i + 1 + 1 := by omega
theorem down_spec : ∀ (n : Nat) (i : Nat) (l : List Due) (M : Mp), l.length - i ≤ n → Cons l M → i < l.length → HY l i False →
    Cons (downS l M i).1 (downS l M i).2 ∧ (∀ d, d ∈ (downS l M i).1 ↔ d ∈ l) ∧ (downS l M i).1.length = l.length ∧ Hp (downS l M i).1
  | 0, i, l, M, hn, hc, hi, hY => by omega
  | n + 1, i, l, M, hn, hc, hi, hY => by
    obtain ⟨x, hx⟩ : ∃ x, l[i]? = some x := ⟨l[i], List.getElem?_eq_getElem hi⟩
    have hbl := bk_lt hi 2
    obtain ⟨y, hy⟩ : ∃ y, l[bk l i 2]? = some y := ⟨l[bk l i 2], List.getElem?_eq_getElem hbl⟩
    obtain ⟨m1, m2⟩ := bk_le l i 2
    by_cases e : bk l i 2 = i
    · rw [downS_stay e]
      refine ⟨hc, fun _ => Iff.rfl, rfl, fun j hj => ?_⟩
      by_cases e1 : (j - 1) / 2 = i
      · intro a b h1 h2
        rw [e1] at h2
        have h3 : l[bk l i 2]? = some b := by rw [e]; exact h2
        rcases kid_of hj e1 with rfl | rfl
        · exact m1 0 (by omega) a b h1 h3
        · exact m1 1 (by omega) a b h1 h3
      · exact hY.1 j hj (fun h => absurd h e1)
    · rw [downS_go hi e hx hy]
      have hgt := (bk_ge l i 2).resolve_left e
      have hpar : (bk l i 2 - 1) / 2 = i := by rcases bk_par l i with h | h | h <;> omega
      generalize bk l i 2 = b at *
      have hat := fun n => swapL_at (x := x) (y := y) hi hbl n
      have hY1 : HY (swapL l i b x y) b False := by
        refine ⟨fun j hj hD u v h1 h2 => ?_, fun j hj hjb h0b u z h1 h2 => ?_⟩
        · have hD : (j - 1) / 2 ≠ b := hD
          rw [hat] at h1 h2
          rw [if_neg hD] at h2
          by_cases e1 : j = b
          · rw [if_pos e1] at h1
            rw [e1, hpar, if_pos rfl] at h2
            cases h1; cases h2
            exact m2 x y hx hy
          · rw [if_neg e1] at h1
            by_cases e2 : j = i
            · rw [if_pos e2] at h1
              cases h1
              rw [if_neg (by omega)] at h2
              rw [e2] at h2
              exact hY.2 b (by omega) hpar (by omega) y v hy h2
            · rw [if_neg e2] at h1
              by_cases e3 : (j - 1) / 2 = i
              · rw [if_pos e3] at h2
                cases h2
                rcases kid_of hj e3 with rfl | rfl
                · exact m1 0 (by omega) u y h1 hy
                · exact m1 1 (by omega) u y h1 hy
              · rw [if_neg e3] at h2
                exact hY.1 j hj (fun h => absurd h e3) u v h1 h2
        · rw [hat] at h1 h2
          rw [hpar, if_neg (by omega), if_pos rfl] at h2
          cases h2
          rw [if_neg (by omega), if_neg (by omega)] at h1
          exact hY.1 j hj (fun h => by omega) u y h1 (by rw [hjb]; exact hy)
      obtain ⟨k1, k2, k3, k4⟩ := down_spec n b (swapL l i b x y) (swapM M i b x y) (by rw [swapL_len]; omega) (hc.swap hx hy) (by rw [swapL_len]; exact hbl) hY1
      rw [swapL_len] at k3
      exact ⟨k1, fun d => (k2 d).trans (swapL_mem hx hy d), k3, k4⟩
end Go.Proofs.YthepkabfiooabaaDoor
