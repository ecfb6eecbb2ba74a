/- Plain laws of records: what was written is read again. -/
import Derived.Test.YtbnanjcghhfcpaaDoorRecLaw
namespace Go.Proofs.YtbnanjcghhfcpaaDoor
open Go.RowKit

theorem cut_at (pre x suf : List UInt8) (n : Nat) (hn : x.length = n) : cut (pre ++ x ++ suf) pre.length n = x := by
  subst hn
  simp [cut, List.append_assoc]
theorem pnum_at (bs pre suf : List UInt8) (wd n a : Nat) (hb : bs = pre ++ lowB wd n ++ suf) (ha : a = pre.length) (hn : n < 256 ^ wd) (hm : n ≤ 4611686018427387904) : pnum bs a wd = some (n, a + wd) := by
  subst hb ha
  have hc := cut_at pre (lowB wd n) suf wd (lowB_len _ _)
  rw [pnum, hc, valLE_lowB wd n hn, if_pos ⟨by simp [lowB_len], hm⟩]
theorem ptext_at (bs pre t suf : List UInt8) (a : Nat) (hb : bs = pre ++ (lowB 2 t.length ++ t) ++ suf) (ha : a = pre.length) (hn : t.length < 65536) : ptext bs a = some (t, a + 2 + t.length) := by
  subst hb ha
  have hc : cut (pre ++ (lowB 2 t.length ++ t) ++ suf) pre.length 2 = lowB 2 t.length := by
    have := cut_at pre (lowB 2 t.length) (t ++ suf) 2 (lowB_len _ _)
    simpa [List.append_assoc] using this
  have hd : cut (pre ++ (lowB 2 t.length ++ t) ++ suf) (pre.length + 2) t.length = t := by
    have := cut_at (pre ++ lowB 2 t.length) t suf t.length rfl
    simpa [List.append_assoc, lowB_len] using this
  rw [ptext, hc, valLE_lowB 2 _ (by simpa using hn), hd, if_pos ⟨by simp [lowB_len], by simp [lowB_len]; omega⟩]

theorem unfold_fold (v : Int) : unfoldI (foldN v) = v := by
  unfold unfoldI foldN
  split <;> split <;> omega
theorem foldN_lt (v : Int) (h1 : -2147483647 ≤ v) (h2 : v ≤ 2147483647) : foldN v < 4294967296 := by
  unfold foldN
  split <;> omega

/-- The members of a number, as a filter of the first k places. -/
def setTo (n k : Nat) : List Int := ((List.range k).filter fun (i : Nat) => n / 2 ^ i % 2 == 1).map fun (i : Nat) => (i : Int)
theorem setTo_succ (n k : Nat) : setTo n (k + 1) = setTo n k ++ if n / 2 ^ k % 2 = 1 then [(k : Int)] else [] := by
  simp only [setTo, List.range_succ, List.filter_append, List.map_append]
  congr 1
  by_cases h : n / 2 ^ k % 2 = 1 <;> simp [h]
theorem setTo_zeros (n k : Nat) : ∀ m, k ≤ m → (∀ i, k ≤ i → i < m → n / 2 ^ i % 2 = 0) → setTo n m = setTo n k := by
  intro m hm
  induction m with
  | zero => intro _; obtain rfl : k = 0 := by omega
            rfl
  | succ m ih =>
    intro h
    by_cases hk : k = m + 1
    · rw [hk]
    · rw [setTo_succ, if_neg (by have := h m (by omega) (by omega); omega), List.append_nil]
      exact ih (by omega) fun i h1 h2 => h i h1 (by omega)
theorem setTo_add (m x : Nat) (hm : m < 2 ^ x) : setTo (m + 2 ^ x) (x + 1) = setTo m x ++ [(x : Int)] := by
  rw [setTo_succ]
  have e1 : (m + 2 ^ x) / 2 ^ x % 2 = 1 := by
    rw [Nat.add_div_right _ (Nat.pow_pos (by decide)), Nat.div_eq_of_lt hm]
  rw [if_pos e1]
  congr 1
  unfold setTo
  congr 1
  apply List.filter_congr
  intro i hi
  have hi : i < x := by simpa using hi
  have e : 2 ^ x = 2 ^ i * (2 * 2 ^ (x - i - 1)) := by
    rw [← Nat.pow_succ', ← Nat.pow_add]
    congr 1
    omega
  have : (m + 2 ^ x) / 2 ^ i = m / 2 ^ i + 2 * 2 ^ (x - i - 1) := by
    rw [e, Nat.add_mul_div_left _ _ (Nat.pow_pos (by decide))]
  rw [this]
  congr 1
  omega
theorem high_zero (m x i : Nat) (hm : m < 2 ^ x) (hi : x ≤ i) : m / 2 ^ i % 2 = 0 := by
  rw [Nat.div_eq_of_lt (Nat.lt_of_lt_of_le hm (Nat.pow_le_pow_right (by decide) hi))]
theorem setTo_setN (l : List Int) (h : allB l.length (stAt l) = true) : ∀ k, k ≤ l.length → ∃ y, y ≤ 32 ∧ setN (l.take k) < 2 ^ y ∧ setTo (setN (l.take k)) y = l.take k ∧ (k < l.length → (y : Int) ≤ l.getD k 0)
  | 0, _ => ⟨0, by omega, by simp [setN], by simp [setN, setTo], fun hk => by have := stAt_ge (allB_at h 0 hk); omega⟩
  | k + 1, hk => by
    obtain ⟨y, hy, hlt, hs, hle⟩ := setTo_setN l h k (by omega)
    have h0 := stAt_ge (allB_at h k (by omega))
    have hle := hle (by omega)
    have hlt2 := setN_lt l k (fun j _ hj => allB_at h j hj) (by omega)
    refine ⟨(l.getD k 0).toNat + 1, by omega, ?_, ?_, fun hk' => ?_⟩
    · rw [setN_take l k (by omega), ← getD_get l k 0 (by omega), Nat.pow_succ]
      omega
    · rw [setN_take l k (by omega), ← getD_get l k 0 (by omega), setTo_add _ _ hlt2, List.take_succ_eq_append_getElem (by omega : k < l.length)]
      rw [setTo_zeros _ y _ (by omega) (fun i h1 _ => high_zero _ y i hlt h1), hs, ← getD_get l k 0 (by omega)]
      congr 2
      omega
    · have h1 := (stAt_ge (allB_at h (k + 1) hk')).2.2
      simp at h1
      have : l.getD k 0 < l.getD (k + 1) 0 := by simpa using h1
      omega
theorem setOf_setN (l : List Int) (h : allB l.length (stAt l) = true) : setOf (setN l) = l := by
  obtain ⟨y, hy, hlt, hs, _⟩ := setTo_setN l h l.length (Nat.le_refl _)
  rw [List.take_length] at hlt hs
  have : setOf (setN l) = setTo (setN l) 32 := rfl
  rw [this, setTo_zeros _ y 32 hy (fun i h1 _ => high_zero _ y i hlt h1), hs]

theorem pvars_back {α : Type} (bs : List UInt8) (K : List Int → Nat → Option α) : ∀ (vs : List Int) (pre suf : List UInt8) (acc : List Int), bs = pre ++ varBs vs ++ suf → (∀ v ∈ vs, -2147483647 ≤ v ∧ v ≤ 2147483647) →
    pvars bs K vs.length pre.length acc = K (acc ++ vs) (pre ++ varBs vs).length
  | [], pre, suf, acc, hb, hv => by simp [pvars, varBs]
  | v :: vs, pre, suf, acc, hb, hv => by
    have h1 := hv v (by simp)
    have e : varBs (v :: vs) = lowB 4 (foldN v) ++ varBs vs := by simp [varBs]
    rw [e] at hb ⊢
    have hp := pnum_at bs pre (varBs vs ++ suf) 4 (foldN v) pre.length (by rw [hb]; simp [List.append_assoc]) rfl (by have := foldN_lt v h1.1 h1.2; omega) (by have := foldN_lt v h1.1 h1.2; omega)
    rw [List.length_cons, pvars, hp]
    have := pvars_back bs K vs (pre ++ lowB 4 (foldN v)) suf (acc ++ [v]) (by rw [hb]; simp [List.append_assoc]) (fun x hx => hv x (by simp [hx]))
    simp only [List.length_append, lowB_len, Option.bind_some, unfold_fold] at this ⊢
    rw [this]
    simp [List.append_assoc, Nat.add_assoc]
theorem pmems_back {α : Type} (bs : List UInt8) (K : List (Int × List Int) → Nat → Option α) : ∀ (ms : List (Int × List Int)) (pre suf : List UInt8) (acc : List (Int × List Int)), bs = pre ++ memBs ms ++ suf →
    (∀ m ∈ ms, 0 ≤ m.1 ∧ m.1 ≤ 31 ∧ allB m.2.length (stAt m.2) = true) → pmems bs K ms.length pre.length acc = K (acc ++ ms) (pre ++ memBs ms).length
  | [], pre, suf, acc, hb, hv => by simp [pmems, memBs]
  | m :: ms, pre, suf, acc, hb, hv => by
    obtain ⟨h1, h2, h3⟩ := hv m (by simp)
    have hs := setN_bound m.2 h3
    have e : memBs (m :: ms) = lowB 1 m.1.toNat ++ lowB 4 (setN m.2) ++ memBs ms := by simp [memBs]
    rw [e] at hb ⊢
    have hp := pnum_at bs pre (lowB 4 (setN m.2) ++ memBs ms ++ suf) 1 m.1.toNat pre.length (by rw [hb]; simp [List.append_assoc]) rfl (by omega) (by omega)
    have hq := pnum_at bs (pre ++ lowB 1 m.1.toNat) (memBs ms ++ suf) 4 (setN m.2) (pre.length + 1) (by rw [hb]; simp [List.append_assoc]) (by simp [lowB_len]) (by omega) (by omega)
    rw [List.length_cons, pmems, hp, Option.bind_some, hq]
    have := pmems_back bs K ms (pre ++ lowB 1 m.1.toNat ++ lowB 4 (setN m.2)) suf (acc ++ [m]) (by rw [hb]; simp [List.append_assoc]) (fun x hx => hv x (by simp [hx]))
    simp only [List.length_append, lowB_len, Option.bind_some, setOf_setN m.2 h3] at this ⊢
    rw [show ((m.1.toNat : Nat) : Int) = m.1 by omega, this]
    simp [List.append_assoc, Nat.add_assoc]
theorem ptms_back {α : Type} (bs : List UInt8) (K : List (List UInt8 × Int) → Nat → Option α) : ∀ (ts : List (List UInt8 × Int)) (pre suf : List UInt8) (acc : List (List UInt8 × Int)), bs = pre ++ tmBs ts ++ suf →
    (∀ t ∈ ts, t.1.length ≤ 32 ∧ 0 ≤ t.2 ∧ t.2 ≤ 1099511627776) → ptms bs K ts.length pre.length acc = K (acc ++ ts) (pre ++ tmBs ts).length
  | [], pre, suf, acc, hb, hv => by simp [ptms, tmBs]
  | t :: ts, pre, suf, acc, hb, hv => by
    obtain ⟨h1, h2, h3⟩ := hv t (by simp)
    have e : tmBs (t :: ts) = lowB 2 t.1.length ++ t.1 ++ lowB 8 t.2.toNat ++ tmBs ts := by simp [tmBs]
    rw [e] at hb ⊢
    have hp := ptext_at bs pre t.1 (lowB 8 t.2.toNat ++ tmBs ts ++ suf) pre.length (by rw [hb]; simp [List.append_assoc]) rfl (by omega)
    have hq := pnum_at bs (pre ++ lowB 2 t.1.length ++ t.1) (tmBs ts ++ suf) 8 t.2.toNat (pre.length + 2 + t.1.length) (by rw [hb]; simp [List.append_assoc]) (by simp [lowB_len]; omega) (by omega) (by omega)
    rw [List.length_cons, ptms, hp, Option.bind_some, hq]
    have := ptms_back bs K ts (pre ++ lowB 2 t.1.length ++ t.1 ++ lowB 8 t.2.toNat) suf (acc ++ [t]) (by rw [hb]; simp [List.append_assoc]) (fun x hx => hv x (by simp [hx]))
    simp only [List.length_append, lowB_len, Option.bind_some] at this ⊢
    rw [show ((t.2.toNat : Nat) : Int) = t.2 by omega, this]
    simp [List.append_assoc, Nat.add_assoc]

theorem mem_getD {β : Type} {l : List β} {x : β} (d : β) (h : x ∈ l) : ∃ j, j < l.length ∧ l.getD j d = x := by
  obtain ⟨j, hj, rfl⟩ := List.getElem_of_mem h
  exact ⟨j, hj, getD_get l j d hj⟩
/-- What a right record's parts are. -/
structure Rights (r : Rc) : Prop where
  c1 : 1 ≤ r.chart
  c2 : r.chart ≤ 2147483647
  b1 : 0 ≤ r.born
  b2 : r.born ≤ 1099511627776
  s1 : 0 ≤ r.steps
  s2 : r.steps ≤ 1099511627776
  act : allB r.active.length (stAt r.active) = true
  act1 : 0 < r.active.length
  vars : ∀ v ∈ r.vars, -2147483647 ≤ v ∧ v ≤ 2147483647
  vars1 : r.vars.length ≤ 8
  mem : ∀ m ∈ r.mem, 0 ≤ m.1 ∧ m.1 ≤ 31 ∧ allB m.2.length (stAt m.2) = true
  mem1 : r.mem.length ≤ 32
  tms : ∀ t ∈ r.timers, t.1.length ≤ 32 ∧ 0 ≤ t.2 ∧ t.2 ≤ 1099511627776
  tms1 : r.timers.length ≤ 8
/-- Rising numbers from 0 to 31 are at most 32. -/
theorem mems_few (l : List (Int × List Int)) (h : allB l.length (memAt l) = true) : ∀ k, k < l.length → (k : Int) ≤ (l.getD k (0, [])).1
  | 0, hk => by
    have := allB_at h 0 hk
    simp only [memAt, Bool.and_eq_true, decide_eq_true_eq] at this
    exact this.1.1.1
  | k + 1, hk => by
    have ih := mems_few l h k (by omega)
    have := allB_at h (k + 1) hk
    simp only [memAt, Bool.and_eq_true, Bool.or_eq_true, decide_eq_true_eq] at this
    have h2 := this.2
    simp at h2
    have : (l.getD k (0, [])).1 < (l.getD (k + 1) (0, [])).1 := by simpa using h2
    omega
theorem rights {r : Rc} (h : rightB r = true) : Rights r := by
  simp only [rightB, headB, statesB, varsB, memsB, timersB, clkB, Bool.and_eq_true, decide_eq_true_eq] at h
  obtain ⟨⟨⟨⟨⟨⟨h1, h2⟩, h3⟩, h4, h5⟩, h6, h7⟩, h8⟩, h9, h10⟩ := h
  refine ⟨h1.1, h1.2, h2.1, h2.2, h3.1, h3.2, h4, h5, ?_, h7, ?_, ?_, ?_, h10⟩
  · intro v hv
    obtain ⟨j, hj, rfl⟩ := mem_getD 0 hv
    have := allB_at h6 j hj
    simpa only [varAt, Bool.and_eq_true, decide_eq_true_eq] using this
  · intro m hm
    obtain ⟨j, hj, rfl⟩ := mem_getD (0, []) hm
    have := allB_at h8 j hj
    simp only [memAt, statesB, Bool.and_eq_true, decide_eq_true_eq] at this
    exact ⟨this.1.1.1, this.1.1.2, this.1.2.1⟩
  · rcases Nat.lt_or_ge 32 r.mem.length with hgt | hle
    · have h1 := mems_few r.mem h8 32 hgt
      have := allB_at h8 32 hgt
      simp only [memAt, Bool.and_eq_true, decide_eq_true_eq] at this
      have := this.1.1.2
      omega
    · exact hle
  · intro t ht
    obtain ⟨j, hj, rfl⟩ := mem_getD ([], 0) ht
    have := allB_at h9 j hj
    simp only [tmAt, nameB, clkB, Bool.and_eq_true, decide_eq_true_eq] at this
    exact ⟨this.1.1.1.1, this.1.2.1, this.1.2.2⟩

theorem parse_back (r : Rc) (h : rightB r = true) : parse (recBs r) = some r := by
  have R := rights h
  have c1 := R.c1; have c2 := R.c2; have b1 := R.b1; have b2 := R.b2; have s1 := R.s1; have s2 := R.s2
  have hA := setN_bound r.active R.act
  have v1 := R.vars1; have m1 := R.mem1; have t1 := R.tms1
  have ho : r.over.toNat ≤ 1 := Bool.toNat_le r.over
  obtain ⟨c, b, s, ac, vs, ms, ts, o⟩ := r
  simp only at c1 c2 b1 b2 s1 s2 hA v1 m1 t1 ho
  obtain ⟨bs, hbs⟩ : ∃ bs, bs = recBs ⟨c, b, s, ac, vs, ms, ts, o⟩ := ⟨_, rfl⟩
  rw [← hbs]
  simp only [recBs, headBs] at hbs
  unfold parse p3 p4 p5 p6
  have q1 := pnum_at bs [73, 49] (lowB 8 b.toNat ++ lowB 8 s.toNat ++ lowB 1 o.toNat ++ lowB 4 (setN ac) ++ lowB 1 vs.length ++ varBs vs ++ lowB 1 ms.length ++ memBs ms ++ lowB 1 ts.length ++ tmBs ts) 4 c.toNat 2 (by rw [hbs]; simp [List.append_assoc]) rfl (by omega) (by omega)
  have q2 := pnum_at bs ([73, 49] ++ lowB 4 c.toNat) (lowB 8 s.toNat ++ lowB 1 o.toNat ++ lowB 4 (setN ac) ++ lowB 1 vs.length ++ varBs vs ++ lowB 1 ms.length ++ memBs ms ++ lowB 1 ts.length ++ tmBs ts) 8 b.toNat (2 + 4) (by rw [hbs]; simp [List.append_assoc]) (by simp [lowB_len]) (by omega) (by omega)
  have q3 := pnum_at bs ([73, 49] ++ lowB 4 c.toNat ++ lowB 8 b.toNat) (lowB 1 o.toNat ++ lowB 4 (setN ac) ++ lowB 1 vs.length ++ varBs vs ++ lowB 1 ms.length ++ memBs ms ++ lowB 1 ts.length ++ tmBs ts) 8 s.toNat (2 + 4 + 8) (by rw [hbs]; simp [List.append_assoc]) (by simp [lowB_len]) (by omega) (by omega)
  have q4 := pnum_at bs ([73, 49] ++ lowB 4 c.toNat ++ lowB 8 b.toNat ++ lowB 8 s.toNat) (lowB 4 (setN ac) ++ lowB 1 vs.length ++ varBs vs ++ lowB 1 ms.length ++ memBs ms ++ lowB 1 ts.length ++ tmBs ts) 1 o.toNat (2 + 4 + 8 + 8) (by rw [hbs]; simp [List.append_assoc]) (by simp [lowB_len]) (by omega) (by omega)
  have q5 := pnum_at bs ([73, 49] ++ lowB 4 c.toNat ++ lowB 8 b.toNat ++ lowB 8 s.toNat ++ lowB 1 o.toNat) (lowB 1 vs.length ++ varBs vs ++ lowB 1 ms.length ++ memBs ms ++ lowB 1 ts.length ++ tmBs ts) 4 (setN ac) (2 + 4 + 8 + 8 + 1) (by rw [hbs]; simp [List.append_assoc]) (by simp [lowB_len]) (by omega) (by omega)
  have q6 := pnum_at bs ([73, 49] ++ lowB 4 c.toNat ++ lowB 8 b.toNat ++ lowB 8 s.toNat ++ lowB 1 o.toNat ++ lowB 4 (setN ac)) (varBs vs ++ lowB 1 ms.length ++ memBs ms ++ lowB 1 ts.length ++ tmBs ts) 1 vs.length (2 + 4 + 8 + 8 + 1 + 4) (by rw [hbs]; simp [List.append_assoc]) (by simp [lowB_len]) (by omega) (by omega)
  simp only [q1, q2, q3, q4, q5, Option.bind_some]
  unfold p7
  simp only [q6, Option.bind_some]
  rw [setOf_setN ac R.act]
  have w1 := pvars_back bs (fun vs' a' => p8 bs (c.toNat : Nat) (b.toNat : Nat) (s.toNat : Nat) (decide (o.toNat = 1)) ac vs' a') vs ([73, 49] ++ lowB 4 c.toNat ++ lowB 8 b.toNat ++ lowB 8 s.toNat ++ lowB 1 o.toNat ++ lowB 4 (setN ac) ++ lowB 1 vs.length) (lowB 1 ms.length ++ memBs ms ++ lowB 1 ts.length ++ tmBs ts) [] (by rw [hbs]; simp [List.append_assoc]) R.vars
  simp only [List.length_append, lowB_len, List.length_cons, List.length_nil, List.nil_append] at w1
  simp only [Nat.zero_add, Nat.reduceAdd] at w1 ⊢
  rw [w1]
  unfold p8
  obtain ⟨pre2, hpre2⟩ : ∃ p, p = [73, 49] ++ lowB 4 c.toNat ++ lowB 8 b.toNat ++ lowB 8 s.toNat ++ lowB 1 o.toNat ++ lowB 4 (setN ac) ++ lowB 1 vs.length ++ varBs vs := ⟨_, rfl⟩
  have l2 : 28 + (varBs vs).length = pre2.length := by rw [hpre2]; simp [lowB_len]; omega
  rw [l2]
  have hb2 : bs = pre2 ++ lowB 1 ms.length ++ memBs ms ++ lowB 1 ts.length ++ tmBs ts := by rw [hbs, hpre2]
  have q7 := pnum_at bs pre2 (memBs ms ++ lowB 1 ts.length ++ tmBs ts) 1 ms.length pre2.length (by rw [hb2]; simp [List.append_assoc]) rfl (by omega) (by omega)
  rw [q7, Option.bind_some]
  have w2 := pmems_back bs (fun ms' a' => p9 bs (c.toNat : Nat) (b.toNat : Nat) (s.toNat : Nat) (decide (o.toNat = 1)) ac vs ms' a') ms (pre2 ++ lowB 1 ms.length) (lowB 1 ts.length ++ tmBs ts) [] (by rw [hb2]; simp [List.append_assoc]) R.mem
  rw [show (pre2 ++ lowB 1 ms.length).length = pre2.length + 1 by simp [lowB_len]] at w2
  simp only [w2, List.nil_append]
  unfold p9
  have q8 := pnum_at bs (pre2 ++ lowB 1 ms.length ++ memBs ms) (tmBs ts) 1 ts.length (pre2 ++ lowB 1 ms.length ++ memBs ms).length (by rw [hb2]) rfl (by omega) (by omega)
  rw [q8, Option.bind_some]
  have w3 := ptms_back bs (fun ts' _ => some (⟨(c.toNat : Nat), (b.toNat : Nat), (s.toNat : Nat), ac, vs, ms, ts', decide (o.toNat = 1)⟩ : Rc)) ts (pre2 ++ lowB 1 ms.length ++ memBs ms ++ lowB 1 ts.length) [] [] (by rw [hb2]; simp [List.append_assoc]) R.tms
  rw [show (pre2 ++ lowB 1 ms.length ++ memBs ms ++ lowB 1 ts.length).length = (pre2 ++ lowB 1 ms.length ++ memBs ms).length + 1 by simp [lowB_len, Nat.add_assoc]] at w3
  simp only [w3, List.nil_append]
  have e1 : ((c.toNat : Nat) : Int) = c := by omega
  have e2 : ((b.toNat : Nat) : Int) = b := by omega
  have e3 : ((s.toNat : Nat) : Int) = s := by omega
  have e4 : decide (o.toNat = 1) = o := by cases o <;> rfl
  rw [e1, e2, e3, e4]
theorem getR_back (r : Rc) (h : rightB r = true) : getR (recBs r) = some r := by
  rw [getR, parse_back r h, Option.bind_some, if_pos ⟨h, rfl⟩]
theorem getR_some {bs : List UInt8} {r : Rc} (h : getR bs = some r) : parse bs = some r ∧ rightB r = true ∧ recBs r = bs := by
  unfold getR at h
  cases hp : parse bs with
  | none => rw [hp] at h; cases h
  | some r' =>
    rw [hp, Option.bind_some] at h
    split at h
    · cases h
      rename_i hh
      exact ⟨rfl, hh⟩
    · cases h
end Go.Proofs.YtbnanjcghhfcpaaDoor
