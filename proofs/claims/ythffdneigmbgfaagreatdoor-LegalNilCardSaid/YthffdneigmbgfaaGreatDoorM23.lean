/- table.begins, table.Event. -/
import Derived.Test.YthffdneigmbgfaaGreatDoorM13
import Derived.Test.YthffdneigmbgfaaGreatDoorM11
import Derived.Test.YthffdneigmbgfaaGreatDoorM7
import Derived.Test.YthffdneigmbgfaaGreatDoorM22
namespace Go.Proofs.YthffdneigmbgfaaGreatDoor
open Go.RowKit
def manyI (act : List Int) (kids : List Nat) : Nat := (kids.filter fun k : Nat => act.contains (k : Int)).length
theorem many_le (act : List Int) (kids : List Nat) : manyI act kids ≤ kids.length := List.length_filter_le ..
def fitB (c : ChD) (act : List Int) (i : Nat) (s : StD) : Bool :=
  !memyB s && (decide (s.parent < 0) || act.contains s.parent) &&
    (if s.kind = 1 ∧ kidsL c i true ≠ [] then manyI act (kidsL c i true) == 1 else if s.kind = 2 then manyI act (kidsL c i true) == (kidsL c i true).length else true)
def fitI (c : ChD) (act : List Int) (i : Int) : Bool := match at_ c i with
  | some s => fitB c act i.toNat s
  | none => false
def lgAt (c : ChD) (act : List Int) (n : Nat) : Bool := match act[n]? with
  | some i => (n == 0 || decide (act.getD (n - 1) 0 < i)) && fitI c act i
  | none => true
def lgChk (c : ChD) (act : List Int) : Int × Int := match firstBad (lgAt c act) act.length with
  | some n => (1, max (act.getD n 0) (-1))
  | none => if manyI act (kidsL c (-1) true) = 1 then (0, -1) else (1, -1)
def lgB (c : ChD) (act : List Int) : Bool := (lgChk c act).1 == 0
theorem lg_iff {c : ChD} {act : List Int} : lgB c act = true ↔ (∀ n, n < act.length → lgAt c act n = true) ∧ manyI act (kidsL c (-1) true) = 1 := by
  unfold lgB lgChk
  cases h : firstBad (lgAt c act) act.length with
  | some n =>
    refine ⟨fun e => by simp at e, fun e => ?_⟩
    rw [firstBad_none e.1] at h
    cases h
  | none =>
    simp only
    split
    · rename_i e
      exact ⟨fun _ => ⟨fun n hn => firstBad_all h n hn, e⟩, fun _ => rfl⟩
    · rename_i e
      exact ⟨fun e2 => by simp at e2, fun e2 => absurd e2.2 e⟩
/-! What is active at first -/
def iniN (c : ChD) : Nat := c.initial.toNat
theorem Full.topS {c : ChD} (h : Full c) : ∃ s, c.states[iniN c]? = some s ∧ c.initial = (iniN c : Nat) ∧ s.parent = -1 ∧ (s.kind = 1 ∨ s.kind = 2) := by
  have := h.ini
  unfold topB at this
  cases ha : at_ c c.initial with
  | none => rw [ha] at this; simp at this
  | some s =>
    rw [ha] at this
    unfold at_ at ha
    split at ha
    · rename_i h0
      refine ⟨s, ha, by unfold iniN; omega, ?_⟩
      simp only [normB, Bool.and_eq_true, beq_iff_eq, Bool.or_eq_true] at this
      exact ⟨this.1, this.2⟩
    · cases ha
def firstL (c : ChD) : List Nat := (List.range c.states.length).filter fun k => decide (k ∈ sbL c (iniN c))
theorem first_mem {c : ChD} (h : Full c) {k : Nat} : k ∈ firstL c ↔ k ∈ bgL c (iniN c) := by
  obtain ⟨s, hs, _⟩ := h.topS
  have hi := (List.getElem?_eq_some_iff.1 hs).1
  unfold firstL
  rw [List.mem_filter, List.mem_range, decide_eq_true_eq, sb_mem h hi]
  exact ⟨fun e => e.2, fun e => ⟨(bg_in h 40 _ k hi (by have := h.few; omega) e).2, e⟩⟩
theorem zL_mem {l : List Nat} {k : Nat} : (zL l).contains (k : Int) = true ↔ k ∈ l := by
  rw [List.contains_iff_mem]
  unfold zL
  rw [List.mem_map]
  constructor
  · rintro ⟨j, h1, h2⟩
    have : j = k := by omega
    exact this ▸ h1
  · exact fun h => ⟨k, h, rfl⟩
theorem filter_one {α : Type} [DecidableEq α] {p : α → Bool} {a : α} : ∀ {l : List α}, l.Nodup → a ∈ l → (∀ x ∈ l, p x = true ↔ x = a) → l.filter p = [a]
  | [], _, h, _ => by simp at h
  | x :: l, hn, ha, hp => by
    obtain ⟨h1, h2⟩ := List.nodup_cons.1 hn
    by_cases e : x = a
    · subst e
      rw [List.filter_cons, if_pos ((hp x (by simp)).2 rfl), List.filter_eq_nil_iff.2 fun y (hy : y ∈ l) hh => h1 ((hp y (List.mem_cons_of_mem _ hy)).1 hh ▸ hy)]
    · rw [List.filter_cons, if_neg fun hh => e ((hp x (by simp)).1 hh)]
      exact filter_one h2 ((List.mem_cons.1 ha).resolve_left (Ne.symm e)) fun y hy => hp y (List.mem_cons_of_mem _ hy)
theorem rises {p : Nat → Bool} {n : Nat} : ((List.range n).filter p).Pairwise (· < ·) := List.Pairwise.sublist List.filter_sublist List.pairwise_lt_range
theorem lg_of {c : ChD} {l : List Nat} (hr : l.Pairwise (· < ·)) (hf : ∀ k ∈ l, fitI c (zL l) k = true) (ht : manyI (zL l) (kidsL c (-1) true) = 1) : lgB c (zL l) = true := by
  rw [lg_iff]
  refine ⟨fun n hn => ?_, ht⟩
  have hn' : n < l.length := by simpa [zL] using hn
  have e : (zL l)[n]? = some ((l[n] : Nat) : Int) := by unfold zL; rw [List.getElem?_map, List.getElem?_eq_getElem hn']; rfl
  unfold lgAt
  rw [e]
  simp only [Bool.and_eq_true, Bool.or_eq_true, beq_iff_eq, decide_eq_true_eq]
  refine ⟨?_, hf _ (List.getElem_mem hn')⟩
  by_cases h0 : n = 0
  · exact .inl h0
  · right
    have := List.pairwise_iff_getElem.1 hr (n - 1) n (by omega) hn' (by omega)
    have e2 : (zL l).getD (n - 1) 0 = ((l[n - 1]'(by omega) : Nat) : Int) := by
      unfold zL
      rw [List.getD_eq_getElem?_getD, List.getElem?_map, List.getElem?_eq_getElem (by omega)]
      rfl
    rw [e2]
    omega
theorem many_all {l kids : List Nat} (h : ∀ k ∈ kids, k ∈ l) : manyI (zL l) kids = kids.length := by
  unfold manyI
  rw [List.filter_eq_self.2 fun k hk => zL_mem.2 (h k hk)]
theorem many_one {l kids : List Nat} {j : Nat} (hn : kids.Nodup) (hj : j ∈ kids) (h : ∀ k ∈ kids, k ∈ l ↔ k = j) : manyI (zL l) kids = 1 := by
  unfold manyI
  rw [filter_one hn hj fun k hk => zL_mem.trans (h k hk)]
  rfl
theorem bg_real {c : ChD} (h : Full c) {i m : Nat} {t : StD} (ht : c.states[i]? = some t) (hm0 : memyB t = false) (hm : m ∈ bgL c i) : ∃ s, c.states[m]? = some s ∧ memyB s = false := by
  have hi := (List.getElem?_eq_some_iff.1 ht).1
  rcases bg_from h 40 i m hi (by have := h.few; omega) hm with rfl | ⟨p, q, _, _, h3, _⟩
  · exact ⟨t, ht, hm0⟩
  · obtain ⟨_, s, h1, h2⟩ := kid_real h3
    exact ⟨s, h1, h2⟩
theorem first_legal {c : ChD} (h : Full c) : lgB c (zL (firstL c)) = true := by
  obtain ⟨t, ht, hini, htp, htk⟩ := h.topS
  have hi := (List.getElem?_eq_some_iff.1 ht).1
  have hm0 : memyB t = false := by
    unfold memyB
    rcases htk with e | e <;> rw [e] <;> rfl
  refine lg_of rises (fun k hk => ?_) ?_
  · have hb := (first_mem h).1 hk
    obtain ⟨s, hs, hm⟩ := bg_real h ht hm0 hb
    unfold fitI
    rw [at_nat, hs]
    simp only [Int.toNat_natCast]
    unfold fitB
    rw [hm, Bool.and_eq_true, Bool.and_eq_true]
    refine ⟨⟨rfl, ?_⟩, ?_⟩
    · rw [Bool.or_eq_true, decide_eq_true_eq]
      by_cases e : k = iniN c
      · subst e
        rw [ht] at hs
        cases hs
        left; omega
      · obtain ⟨p, h1, h2⟩ := bg_parent h hi hb e
        rw [par_nat hs] at h1
        right
        rw [h1]
        exact zL_mem.2 ((first_mem h).2 h2)
    · have hk2 : ∀ j ∈ kidsL c k true, (j ∈ firstL c ↔ s.kind = 2 ∨ s.initial = (j : Nat)) := fun j hj => (first_mem h).trans (bg_kid_iff h hi hb hs hj)
      split
      · rename_i e
        rw [beq_iff_eq]
        rcases h.cases hs with ⟨_, ⟨e1, _⟩ | ⟨j, hj, e1⟩⟩ | ⟨e1, _⟩ | ⟨e1, _⟩ | ⟨e1, _⟩
        · exact absurd e1 e.2
        · exact many_one (kidsL_nodup ..) hj fun x hx => (hk2 x hx).trans ⟨fun q => q.elim (fun q => by omega) fun q => by omega, fun q => .inr (by rw [q]; exact e1)⟩
        · omega
        · omega
        · omega
      · split
        · rename_i e
          rw [beq_iff_eq]
          exact many_all fun j hj => (hk2 j hj).2 (.inl e)
        · rfl
  · refine many_one (j := iniN c) (kidsL_nodup ..) (kid_of ht htp hm0) fun x hx => ?_
    rw [first_mem h]
    constructor
    · intro hb
      by_cases e : x = iniN c
      · exact e
      · obtain ⟨p, h1, _⟩ := bg_parent h hi hb e
        have := (kid_iff.1 (kid_real hx).1).2
        omega
    · rintro rfl
      exact bg_self h hi
/-! What begins is few -/
theorem bg_up {c : ChD} (h : Full c) : ∀ (n i m : Nat), i < c.states.length → c.states.length ≤ i + n → m ∈ bgL c i → m < c.states.length ∧ (m = i ∨ (i : Int) ∈ upL c m)
  | 0, i, m, hi, hn, _ => by omega
  | n + 1, i, m, hi, hn, hm => by
    obtain ⟨s, hs⟩ : ∃ s, c.states[i]? = some s := ⟨c.states[i], List.getElem?_eq_getElem hi⟩
    rw [bg_ref h hs, List.mem_cons, List.mem_flatMap] at hm
    rcases hm with rfl | ⟨k, hk, hm⟩
    · exact ⟨hi, .inl rfl⟩
    · have hg := kid_gt h.toRight (kid_real hk).1
      have hkp := (kid_iff.1 (kid_real hk).1).2
      have hup : (i : Int) ∈ upL c k := (up_mem h.toRight (inZ_nat.2 hg.2)).2 (.inl hkp.symm)
      split at hm
      · obtain ⟨h1, h2⟩ := bg_up h n k m (by omega) (by omega) hm
        refine ⟨h1, .inr ?_⟩
        rcases h2 with rfl | h2
        · exact hup
        · exact up_trans h.toRight (m + 1) m k i (by omega) h2 hup
      · simp at hm
theorem bg_nodup {c : ChD} (h : Full c) : ∀ (n i : Nat), i < c.states.length → c.states.length ≤ i + n → (bgL c i).Nodup
  | 0, i, hi, hn => by omega
  | n + 1, i, hi, hn => by
    obtain ⟨s, hs⟩ : ∃ s, c.states[i]? = some s := ⟨c.states[i], List.getElem?_eq_getElem hi⟩
    rw [bg_ref h hs, List.nodup_cons]
    have mem : ∀ k ∈ kidsL c i true, ∀ m, m ∈ (if s.kind = 2 ∨ s.initial = (k : Nat) then bgL c k else []) → m < c.states.length ∧ (m = k ∨ (k : Int) ∈ upL c m) := fun k hk m hm => by
      have hg := kid_gt h.toRight (kid_real hk).1
      split at hm
      · exact bg_up h n k m (by omega) (by omega) hm
      · simp at hm
    refine ⟨fun hm => ?_, ?_⟩
    · obtain ⟨k, hk, hm⟩ := List.mem_flatMap.1 hm
      have hg := kid_gt h.toRight (kid_real hk).1
      obtain ⟨q1, q2⟩ := mem k hk i hm
      rcases q2 with e | e
      · omega
      · have := up_lt h.toRight 40 _ _ e
        omega
    · have hnd := kidsL_nodup c i true
      rw [List.nodup_iff_pairwise_ne] at hnd
      rw [List.nodup_iff_pairwise_ne, List.pairwise_flatMap]
      refine ⟨fun k hk => ?_, ?_⟩
      · have hg := kid_gt h.toRight (kid_real hk).1
        rw [← List.nodup_iff_pairwise_ne]
        split
        · exact bg_nodup h n k (by omega) (by omega)
        · exact .nil
      · refine List.Pairwise.imp_of_mem (R := fun a b => a ≠ b) ?_ hnd
        intro k1 k2 hk1 hk2 hne m1 hm1 m2 hm2 e
        subst e
        obtain ⟨q1, q2⟩ := mem k1 hk1 m1 hm1
        obtain ⟨_, q3⟩ := mem k2 hk2 m1 hm2
        exact hne (kid_one h.toRight (kid_real hk1).1 (kid_real hk2).1 (m1 + 1) m1 (by omega) q1 q2 q3)
theorem bg_len {c : ChD} (h : Full c) {i : Nat} (hi : i < c.states.length) : (bgL c i).length ≤ 32 := by
  have hf := h.few
  have := (bg_nodup h 40 i hi (by omega)).length_le_of_subset (l₂ := List.range c.states.length) fun m hm => List.mem_range.2 (bg_up h 40 i m hi (by omega) hm).1
  simp at this
  omega
theorem sb_len {c : ChD} (h : Full c) (i : Nat) : (sbL c i).length ≤ 32 := by
  have hf := h.few
  have := (sort_nodup h.toRight (zL (bgL c i))).length_le_of_subset (l₂ := List.range c.states.length) fun m hm => by
    unfold sortL at hm
    split at hm
    · exact List.mem_range.2 ((walk_top h.toRight m).1 (List.mem_filter.1 hm).1)
    · simp at hm
  unfold sbL
  simp at this
  omega
end Go.Proofs.YthffdneigmbgfaaGreatDoor
set_option linter.unusedSimpArgs false
namespace Go.Proofs.YthffdneigmbgfaaGreatDoor
open Go.RowKit
set_option maxRecDepth 100000
set_option maxHeartbeats 4000000
theorem begins_con (env : Env) (c : ChD) (h : Full c) : ∀ (n i : Nat), i < c.states.length → c.states.length ≤ i + n → Con Tryz.prog env 103 [.agg (chAV c), I i] (.own 3 1 ((bgL c i).map natAV))
  | 0, i, hi, hn => by omega
  | n + 1, i, hi, hn => by
    have hlen := h.few
    obtain ⟨s, hs⟩ : ∃ s, c.states[i]? = some s := ⟨c.states[i], List.getElem?_eq_getElem hi⟩
    have hb := bg_eq h hs
    have hbl := bg_len h hi
    have g0 : ((i : Nat) : Int) < (c.states.length : Int) := by omega
    by_cases e1 : s.kind = 1
    · by_cases e2 : 0 ≤ s.initial
      · obtain ⟨j, hj, e3⟩ := ini_kid h hs e1 e2
        have hg := kid_gt h.toRight (kid_real hj).1
        rw [if_pos ⟨e1, e2⟩, e3, Int.toNat_natCast] at hb
        have f0 := begins_con env c h n j (by omega) (by omega)
        rw [hb] at hbl
        have hf : Fits (1 + (bgL c j).length) 8 := fits_small (by simp at hbl; omega) (by omega)
        rw [hb]
        refine con_of_body Tryz.func103 rfl Tryz.call103 (by rw [Tryz.ntmps103]; simp) ?_
        rw [Tryz.ntmps103, Tryz.results103]
        have F := And.intro chAV.eq_1 <| And.intro stAV.eq_1 <| And.intro hs <| And.intro e1 <| And.intro e3 <| And.intro g0 <| And.intro natAV.eq_1 <| hf
        repeat (first | refine st ?_ | refine cC f0 ?_)
        exact aR
      · rw [if_neg fun e => e2 e.2, if_neg (by omega)] at hb
        rw [hb]
        refine con_of_body Tryz.func103 rfl Tryz.call103 (by rw [Tryz.ntmps103]; simp) ?_
        rw [Tryz.ntmps103, Tryz.results103]
        have F := And.intro chAV.eq_1 <| And.intro stAV.eq_1 <| And.intro hs <| And.intro e1 <| And.intro e2 <| And.intro g0 <| natAV.eq_1
        repeat refine st ?_
        exact aR
    · rw [if_neg fun e => e1 e.1] at hb
      have e1' : (s.kind == 1) = false := by simpa using e1
      by_cases e2 : s.kind = 2
      · rw [if_pos e2] at hb
        have f1 := pReal_con env c i (by omega)
        generalize hK : kidsL c i true = K at *
        have hKm : ∀ k ∈ K, i < k ∧ k < c.states.length := fun k hk => by
          rw [← hK] at hk
          have := kid_gt h.toRight (kid_real hk).1
          omega
        have hKl : K.length ≤ 32 := by
          have := (kidsL_nodup c i true).length_le_of_subset (l₂ := List.range c.states.length) fun m hm => List.mem_range.2 (hKm m (hK ▸ hm)).2
          rw [hK] at this
          simp at this
          omega
        have hpre : ∀ j, (i :: (K.take j).flatMap (bgL c)).length ≤ 32 := fun j => by
          have e : (K.take j).flatMap (bgL c) ++ (K.drop j).flatMap (bgL c) = K.flatMap (bgL c) := by rw [← List.flatMap_append, List.take_append_drop]
          have := congrArg List.length e
          rw [hb] at hbl
          simp only [List.length_cons, List.length_append] at *
          omega
        refine con_of_body Tryz.func103 rfl Tryz.call103 (by rw [Tryz.ntmps103]; simp) ?_
        rw [Tryz.ntmps103, Tryz.results103]
        have F := And.intro chAV.eq_1 <| And.intro stAV.eq_1 <| And.intro hs <| And.intro e1' <| And.intro e2 <| And.intro g0 <| natAV.eq_1
        repeat (first | refine st ?_ | refine cC f1 ?_)
        refine awp_loopH (D := Nat) (fun j vs => [(2, .loc 2 (vs 2) 0 0), (5, .row 10 (vs 10)), (37, .row 37 (vs 37)), (38, I K.length), (39, I j)]) (fun j _ => [(2, ⟨5, [chAV c], 26, false⟩), (10, ⟨1, (i :: (K.take j).flatMap (bgL c)).map natAV, 3, true⟩), (37, ⟨1, K.map natAV, 3, true⟩)]) (fun j _ esc => j ≤ K.length ∧ esc 10 = false) (fun j => K.length - j) 0 ?_ ?_ ?_ ?_
        · exact ⟨Nat.zero_le _, rfl⟩
        · (simp only [go_sem, F])
        · have F := And.intro chAV.eq_1 <| natAV.eq_1
          (simp only [go_sem, List.flatMap_nil, F])
        rintro j ws esc ⟨hj, e0⟩
        by_cases hlt : j < K.length
        · obtain ⟨k, hk⟩ : ∃ k, K[j]? = some k := ⟨K[j], List.getElem?_eq_getElem hlt⟩
          have hkm := hKm k (List.mem_of_getElem? hk)
          have q1 := nlt hlt
          have q2 := wrap_succ hlt (by omega)
          have f0 := begins_con env c h n k (by omega) (by omega)
          have htk : (K.take (j + 1)).flatMap (bgL c) = (K.take j).flatMap (bgL c) ++ bgL c k := by rw [List.take_add_one, hk, List.flatMap_append]; simp
          have hp := hpre (j + 1)
          rw [htk] at hp
          have hf : Fits (((K.take j).flatMap (bgL c)).length + 1 + (bgL c k).length) 8 := fits_small (by simp only [List.length_cons, List.length_append] at hp; omega) (by omega)
          have F := And.intro chAV.eq_1 <| And.intro natAV.eq_1 <| And.intro hk <| And.intro q1 <| And.intro q2 <| And.intro hf <| e0
          repeat (first | refine st ?_ | refine cC f0 ?_)
          refine ⟨j + 1, ⟨hlt, by simp only [go_sem, e0]⟩, ?_, ?_, by omega⟩
          · (simp only [go_sem, F])
          · have F := And.intro chAV.eq_1 <| And.intro natAV.eq_1 <| htk
            (simp only [go_sem, List.map_append, F])
        · obtain rfl : j = K.length := by omega
          have q1 : ¬ (K.length : Int) < (K.length : Int) := by omega
          have hta : K.take K.length = K := List.take_length
          rw [hb]
          have F := And.intro natAV.eq_1 <| And.intro q1 <| And.intro hta <| e0
          repeat refine st ?_
          exact aR
      · rw [if_neg e2] at hb
        have e2' : (s.kind == 2) = false := by simpa using e2
        rw [hb]
        refine con_of_body Tryz.func103 rfl Tryz.call103 (by rw [Tryz.ntmps103]; simp) ?_
        rw [Tryz.ntmps103, Tryz.results103]
        have F := And.intro chAV.eq_1 <| And.intro stAV.eq_1 <| And.intro hs <| And.intro e1' <| And.intro e2' <| And.intro g0 <| natAV.eq_1
        repeat refine st ?_
        exact aR
theorem event_con (env : Env) (c : ChD) (hc : c.trans.length ≤ 1000000) (x y : AV) (s : List UInt8) : Con Tryz.prog env 22 [.ref 9 [[Sg c.name, I c.initial, varsAV c.vars, stsAV c.states, trsAV c.trans, treeAV c, .seq 1 ((evL c).map strAV), x, y]] 0 0, Sg s] (I (evI c s)) := by
  have hl := evL_len c
  have f0 := bsearch_con env (evL c) s (posL (evL c) s) (pos_cut (ev_pair c) s) (by omega)
  unfold evI
  by_cases h : (evL c)[posL (evL c) s]? = some s
  · have hb : ((evL c)[posL (evL c) s]? == some s) = true := by simpa using h
    rw [hb] at f0
    rw [if_pos h]
    refine con_of_body Tryz.func22 rfl Tryz.call22 (by rw [Tryz.ntmps22]; simp) ?_
    rw [Tryz.ntmps22, Tryz.results22]
    repeat (first | refine st0 ?_ | refine cC0 f0 ?_)
    exact aR0
  · have hb : ((evL c)[posL (evL c) s]? == some s) = false := by simpa using h
    rw [hb] at f0
    rw [if_neg h]
    refine con_of_body Tryz.func22 rfl Tryz.call22 (by rw [Tryz.ntmps22]; simp) ?_
    rw [Tryz.ntmps22, Tryz.results22]
    repeat (first | refine st0 ?_ | refine cC0 f0 ?_)
    exact aR0
end Go.Proofs.YthffdneigmbgfaaGreatDoor
