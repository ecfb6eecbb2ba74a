/- Flags of active states, how many are active, plain; slices.Sort of ints. -/
import Derived.Test.YtlmekdfleciejaaGreatDoorG1
import Derived.Test.YtlmekdfleciejaaGreatDoorM34
import Derived.Test.YtlmekdfleciejaaGreatDoorM8
import Derived.Test.YtlmekdfleciejaaGreatDoorM4
import Derived.Test.YtlmekdfleciejaaGreatDoorM31
import Derived.Test.YtlmekdfleciejaaGreatDoorM15
import Derived.Test.YtlmekdfleciejaaGreatDoorM30
import Derived.Shelf.Slices.In.SortNone
set_option linter.unusedSimpArgs false
namespace Go.Proofs.YtlmekdfleciejaaGreatDoor
open Go.RowKit
set_option maxRecDepth 100000
set_option maxHeartbeats 4000000
theorem tabTree_con (env : Env) (c : ChD) : Con Tryz.prog env 31 [tabAV c] (treeAV c) := by
  refine con_of_body Tryz.func31 rfl Tryz.call31 (by rw [Tryz.ntmps31]; simp) ?_
  rw [Tryz.ntmps31, Tryz.results31]
  have F := And.intro tabAV.eq_1 <| And.intro tabCells.eq_1 <| treeAV.eq_1
  repeat refine st ?_
  exact aR
theorem tabChart_con (env : Env) (c : ChD) (hs : Small c) : Con Tryz.prog env 17 [tabAV c] (.agg (chAV c)) := by
  have f0 := pCopy_con env c hs
  unfold chAV at f0
  refine con_of_body Tryz.func17 rfl Tryz.call17 (by rw [Tryz.ntmps17]; simp) ?_
  rw [Tryz.ntmps17, Tryz.results17]
  have F := And.intro tabAV.eq_1 <| tabCells.eq_1
  repeat (first | refine st ?_ | refine cC f0 ?_)
  (refine awp_ret ?_; show (resRd _ _ _).run _ = some _; simp only [go_sem, F])
  rfl
theorem tabIs_con (env : Env) (c : ChD) (i : Int) : Con Tryz.prog env 72 [tabAV c, I i] (B (inZ c i)) := by
  unfold inZ
  by_cases h0 : 0 ≤ i
  · by_cases h1 : i < (c.states.length : Int)
    · refine con_of_body Tryz.func72 rfl Tryz.call72 (by rw [Tryz.ntmps72]; simp) ?_
      rw [Tryz.ntmps72, Tryz.results72]
      have F := And.intro tabAV.eq_1 <| And.intro tabCells.eq_1 <| And.intro h0 <| h1
      repeat refine st ?_
      exact aR
    · refine con_of_body Tryz.func72 rfl Tryz.call72 (by rw [Tryz.ntmps72]; simp) ?_
      rw [Tryz.ntmps72, Tryz.results72]
      have F := And.intro tabAV.eq_1 <| And.intro tabCells.eq_1 <| And.intro h0 <| h1
      repeat refine st ?_
      exact aR
  · refine con_of_body Tryz.func72 rfl Tryz.call72 (by rw [Tryz.ntmps72]; simp) ?_
    rw [Tryz.ntmps72, Tryz.results72]
    have F := And.intro tabAV.eq_1 <| And.intro tabCells.eq_1 <| h0
    repeat refine st ?_
    exact aR
theorem tabReal_con (env : Env) (c : ChD) (h : Full c) (i : Int) : Con Tryz.prog env 33 [tabAV c, I i] (.own 3 1 ((if i = -1 ∨ inZ c i = true then kidsL c i true else []).map natAV)) := by
  have hlen := h.few
  have f0 := tabIs_con env c i
  have f1 := pReal_con env c i (by omega)
  unfold chAV at f1
  unfold tabAV tabCells at f0 ⊢
  by_cases e : i = -1
  · subst e
    have hz : inZ c (-1) = false := by unfold inZ; simp
    rw [hz] at f0
    rw [if_pos (.inl rfl)]
    refine con_of_body Tryz.func33 rfl Tryz.call33 (by rw [Tryz.ntmps33]; simp) ?_
    rw [Tryz.ntmps33, Tryz.results33]
    repeat (first | refine st0 ?_ | refine cC0 f0 ?_ | refine cC0 f1 ?_)
    exact aR0
  · have e1 : (i != -1) = true := by simpa using e
    cases hz : inZ c i with
    | false =>
      rw [hz] at f0
      rw [if_neg (by simp [e])]
      refine con_of_body_w Tryz.func33 rfl Tryz.call33 (by rw [Tryz.ntmps33]; simp) ?_
      rw [Tryz.ntmps33, Tryz.results33]
      have F := e1
      repeat (first | refine st ?_ | refine cC f0 ?_ | refine cC f1 ?_)
      (refine awp_ret ?_; refine ⟨_, (by show (resRd _ _ _).run _ = some _; simp only [go_sem, F]; rfl), ?_⟩)
      exact RStr.own_nil _ _ (by decide)
    | true =>
      rw [hz] at f0
      rw [if_pos (.inr rfl)]
      refine con_of_body Tryz.func33 rfl Tryz.call33 (by rw [Tryz.ntmps33]; simp) ?_
      rw [Tryz.ntmps33, Tryz.results33]
      have F := e1
      repeat (first | refine st ?_ | refine cC f0 ?_ | refine cC f1 ?_)
      exact aR
def memP (c : ChD) (i : Int) (k : Nat) : Bool := match c.states[k]? with
  | some s => inZ c i && ((s.parent == i) && memyB s)
  | none => false
def memL (c : ChD) (i : Int) : List Nat := (List.range c.states.length).filter (memP c i)
theorem mem_kids {c : ChD} (i : Int) (hz : inZ c i = true) : memL c i = (kidsL c i false).filter fun k : Nat => !inL (kidsL c i true) (k : Int) := by
  unfold memL kidsL kidsTo
  rw [List.filter_filter]
  apply List.filter_congr
  intro k hk
  have hk := List.mem_range.1 hk
  obtain ⟨s, hs⟩ : ∃ s, c.states[k]? = some s := ⟨c.states[k], List.getElem?_eq_getElem hk⟩
  have e1 : isKid c i false k = (s.parent == i) := by unfold isKid; rw [hs]; simp
  have e2 : inL ((List.range c.states.length).filter (isKid c i true)) (k : Int) = ((s.parent == i) && !memyB s) := by
    rw [Bool.eq_iff_iff, inL_iff]
    constructor
    · rintro ⟨j, hj, e⟩
      have : j = k := by omega
      subst this
      have := (List.mem_filter.1 hj).2
      unfold isKid at this
      rw [hs] at this
      simpa using this
    · intro e
      refine ⟨k, List.mem_filter.2 ⟨List.mem_range.2 hk, ?_⟩, rfl⟩
      unfold isKid
      rw [hs]
      simpa using e
  unfold memP
  rw [e1, e2, hs]
  simp only [hz, Bool.true_and]
  cases (s.parent == i) <;> cases memyB s <;> rfl
def memTo (K R : List Nat) (j : Nat) : List Nat := (K.take j).filter fun k : Nat => !inL R (k : Int)
theorem memTo_succ {K R : List Nat} {j k : Nat} (h : K[j]? = some k) : memTo K R (j + 1) = if inL R (k : Int) then memTo K R j else memTo K R j ++ [k] := by
  unfold memTo
  rw [List.take_add_one, h, List.filter_append]
  cases hb : inL R (k : Int) <;> simp [hb]
theorem memTo_len (K R : List Nat) (j : Nat) : (memTo K R j).length ≤ K.length := by
  unfold memTo
  exact Nat.le_trans (List.length_filter_le ..) (by rw [List.length_take]; omega)
theorem tabMem_con (env : Env) (c : ChD) (h : Full c) (i : Int) : Con Tryz.prog env 34 [tabAV c, I i] (.own 3 1 ((memL c i).map natAV)) := by
  have hlen := h.few
  have f0 := tabIs_con env c i
  cases hz : inZ c i with
  | false =>
    rw [hz] at f0
    have hm : memL c i = [] := by
      unfold memL
      rw [List.filter_eq_nil_iff]
      intro k _
      unfold memP
      cases c.states[k]? with
      | none => simp
      | some s => simp [hz]
    rw [hm]
    unfold tabAV tabCells at f0 ⊢
    refine con_of_body_w Tryz.func34 rfl Tryz.call34 (by rw [Tryz.ntmps34]; simp) ?_
    rw [Tryz.ntmps34, Tryz.results34]
    repeat (first | refine st0 ?_ | refine cC0 f0 ?_)
    (refine awp_ret ?_; refine ⟨_, (by show (resRd _ _ _).run _ = some _; simp only [go_sem]; rfl), ?_⟩)
    exact RStr.own_nil _ _ (by decide)
  | true =>
    rw [hz] at f0
    rw [mem_kids i hz]
    have f1 := pReal_con env c i (by omega)
    have f2 := pKids_con env c i (by omega)
    unfold chAV at f1 f2
    have hKl := kids_few h.toRight i false
    have hRl := kids_few h.toRight i true
    generalize kidsL c i true = R at *
    generalize kidsL c i false = K at *
    unfold tabAV tabCells at f0 ⊢
    refine con_of_body Tryz.func34 rfl Tryz.call34 (by rw [Tryz.ntmps34]; simp) ?_
    rw [Tryz.ntmps34, Tryz.results34]
    repeat (first | refine st0 ?_ | refine cC0 f0 ?_ | refine cC0 f1 ?_ | refine cC0 f2 ?_)
    refine awp_nilrow 6 6 3 1 ?_
    refine awp_loopH (D := Nat) (fun j vs => [(5, .row 18 (vs 18)), (6, .row 6 (vs 6)), (24, .row 24 (vs 24)), (25, I K.length), (26, I j)]) (fun j _ => [(6, ⟨1, (memTo K R j).map natAV, 3, true⟩), (18, ⟨1, R.map natAV, 3, true⟩), (24, ⟨1, K.map natAV, 3, true⟩)]) (fun j _ esc => j ≤ K.length ∧ esc 6 = false) (fun j => K.length - j) 0 ?_ ?_ ?_ ?_
    · exact ⟨Nat.zero_le _, rfl⟩
    · (simp only [go_sem])
    · (simp only [go_sem])
      try rfl
    rintro j ws esc ⟨hj, e0⟩
    by_cases hlt : j < K.length
    · obtain ⟨k, hk⟩ : ∃ k, K[j]? = some k := ⟨K[j], List.getElem?_eq_getElem hlt⟩
      have q1 := nlt hlt
      have q2 := wrap_succ hlt (by omega)
      have f3 := contains_con env R k (by omega)
      have hil := memTo_len K R j
      have hf : Fits ((memTo K R j).length + 1) 8 := fits_small (by omega) (by omega)
      have hn := memTo_succ (R := R) hk
      cases hb : inL R k with
      | true =>
        rw [hb] at f3
        rw [hb, if_pos rfl] at hn
        have F := And.intro natAV.eq_1 <| And.intro q1 <| And.intro q2 <| And.intro hk <| And.intro hf <| e0
        repeat (first | refine st ?_ | refine cC f3 ?_)
        refine ⟨j + 1, ⟨hlt, by simp only [go_sem, e0]⟩, ?_, ?_, by omega⟩
        · (simp only [go_sem, F])
        · have F := And.intro natAV.eq_1 <| hn
          (simp only [go_sem, List.map_append, F])
      | false =>
        rw [hb] at f3
        rw [hb, if_neg Bool.false_ne_true] at hn
        have F := And.intro natAV.eq_1 <| And.intro q1 <| And.intro q2 <| And.intro hk <| And.intro hf <| e0
        repeat (first | refine st ?_ | refine cC f3 ?_)
        refine ⟨j + 1, ⟨hlt, by simp only [go_sem, e0]⟩, ?_, ?_, by omega⟩
        · (simp only [go_sem, F])
        · have F := And.intro natAV.eq_1 <| hn
          (simp only [go_sem, List.map_append, F])
    · obtain rfl : j = K.length := by omega
      have q1 : ¬ (K.length : Int) < (K.length : Int) := by omega
      have hall : memTo K R K.length = K.filter fun k : Nat => !inL R (k : Int) := by unfold memTo; rw [List.take_length]
      have F := And.intro q1 <| And.intro hall <| e0
      repeat refine st ?_
      exact aR
end Go.Proofs.YtlmekdfleciejaaGreatDoor
namespace Go.Proofs.YtlmekdfleciejaaGreatDoor
open Go.RowKit
theorem Str.seq {sz : Nat} {es' es : List (List AV)} (hl : es'.length = es.length) (hs : ∀ (i : Nat) (e' e : List AV), es'[i]? = some e' → es[i]? = some e → Strs e' e) : Str (.seq sz es') (.seq sz es) := fun S w v h => by
  have cell : ∀ {i j : Nat} {c : AV}, cellAt es i j = some c → ∃ c', cellAt es' i j = some c' ∧ Str c' c := fun {i j c} hc => by
    unfold cellAt at hc ⊢
    cases he : es[i]? with
    | none => rw [he] at hc; cases hc
    | some e =>
      rw [he] at hc
      have hi := (List.getElem?_eq_some_iff.1 he).1
      have he' : es'[i]? = some es'[i] := List.getElem?_eq_getElem (by omega)
      obtain ⟨h1, h2⟩ := hs i _ e he' he
      have hj := (List.getElem?_eq_some_iff.1 (show e[j]? = some c from hc)).1
      rw [he']
      exact ⟨es'[i][j], List.getElem?_eq_getElem (by omega), h2 j _ c (List.getElem?_eq_getElem (by omega)) hc⟩
  cases h with
  | seq A n cap sz es' b o u hn hcap hA hz hc hr =>
    refine .seq A n cap sz es b o u (by omega) hcap hA (fun i e he => ?_) (fun i j c h => ?_) fun i j c h => ?_
    · have hi := (List.getElem?_eq_some_iff.1 he).1
      have he' : es'[i]? = some es'[i] := List.getElem?_eq_getElem (by omega)
      rw [← (hs i _ e he' he).1]
      exact hz i _ he'
    · obtain ⟨c', h1, _⟩ := cell h
      exact hc i j c' h1
    · obtain ⟨c', h1, h2⟩ := cell h
      exact h2 _ _ _ (hr i j c' h1)
theorem Strs.one {c' c : AV} (h : Str c' c) : Strs [c'] [c] := .cons h .nil
def Strss (es' es : List (List AV)) : Prop := es'.length = es.length ∧ ∀ (i : Nat) (e' e : List AV), es'[i]? = some e' → es[i]? = some e → Strs e' e
theorem Strss.nil : Strss [] [] := ⟨rfl, fun i c' c h _ => by simp at h⟩
theorem Strss.cons {e' e : List AV} {es' es : List (List AV)} (h : Strs e' e) (hs : Strss es' es) : Strss (e' :: es') (e :: es) := ⟨by simp [hs.1], fun i a b ha hb => by
  cases i with
  | zero =>
    simp only [List.getElem?_cons_zero, Option.some.injEq] at ha hb
    subst ha hb
    exact h
  | succ i => exact hs.2 i a b (by simpa using ha) (by simpa using hb)⟩
theorem Str.seqs {sz : Nat} {es' es : List (List AV)} (h : Strss es' es) : Str (.seq sz es') (.seq sz es) := .seq h.1 h.2
end Go.Proofs.YtlmekdfleciejaaGreatDoor
set_option linter.unusedSimpArgs false
namespace Go.Proofs.YtlmekdfleciejaaGreatDoor
open Go.RowKit
set_option maxRecDepth 100000
set_option maxHeartbeats 4000000
def lightTB (c : ChD) : Bool := decide ((c.states.length : Int) ≤ 40) && decide ((c.trans.length : Int) ≤ 70) && decide ((c.vars.length : Int) ≤ 10)
theorem rRight_con (env : Env) (c : ChD) : Con Tryz.prog env 67 [.agg (chAV c)] (B ((chk c).1 == 0)) := by
  have f0 := rCheck_con env c
  unfold chkT at f0
  refine con_of_body Tryz.func67 rfl Tryz.call67 (by rw [Tryz.ntmps67]; simp) ?_
  rw [Tryz.ntmps67, Tryz.results67]
  repeat (first | refine st0 ?_ | refine cC0 f0 ?_)
  exact aR0
def goodB (c : ChD) : Bool := lightTB c && ((chk c).1 == 0)
theorem chk_at {c : ChD} (h : (chk c).1 = 0) : chk c = (0, -1) := by
  unfold chk at h ⊢
  split at h
  · simp at h
  rename_i h1
  rw [if_neg h1]
  split at h
  · simp at h
  rename_i h2
  rw [if_neg h2]
  split at h
  · simp at h
  rename_i h3
  try simp only at h ⊢
  split at h
  · simp at h
  rename_i h4
  try simp only at h ⊢
  split at h
  · simp at h
  rename_i h5
  rw [if_neg h5]
  split at h
  · simp at h
  · rfl
theorem good_full {c : ChD} (h : goodB c = true) : Full c := by
  unfold goodB at h
  rw [Bool.and_eq_true, beq_iff_eq] at h
  exact full_of h.2
end Go.Proofs.YtlmekdfleciejaaGreatDoor
set_option linter.unusedSimpArgs false
namespace Go.Proofs.YtlmekdfleciejaaGreatDoor
open Go.RowKit
set_option maxRecDepth 100000
set_option maxHeartbeats 4000000
end Go.Proofs.YtlmekdfleciejaaGreatDoor
namespace Go.Proofs.YtlmekdfleciejaaGreatDoor
open Go.RowKit
/-! The n-th ones -/
end Go.Proofs.YtlmekdfleciejaaGreatDoor
namespace Go.Proofs.YtlmekdfleciejaaGreatDoor
open Go.RowKit
/-! One more is none -/
end Go.Proofs.YtlmekdfleciejaaGreatDoor
namespace Go.Proofs.YtlmekdfleciejaaGreatDoor
open Go.RowKit Go.Sort Go.Shelf Go.Lib
def flagA (n : Nat) (act : List Int) : List (List AV) := (List.range n).map fun k : Nat => [B (act.contains (k : Int))]
theorem flag_len (n : Nat) (act : List Int) : (flagA n act).length = n := by unfold flagA; simp
theorem flag_at {n : Nat} {act : List Int} {k : Nat} (hk : k < n) : (flagA n act)[k]? = some [B (act.contains (k : Int))] := by
  unfold flagA
  rw [List.getElem?_map, List.getElem?_range hk]
  rfl
theorem flag_zero (n : Nat) : List.replicate n [B false] = flagA n [] := by
  unfold flagA
  apply List.ext_getElem?
  intro j
  rw [List.getElem?_map]
  by_cases h : j < n
  · rw [List.getElem?_range h, List.getElem?_replicate_of_lt h]
    rfl
  · rw [List.getElem?_eq_none (by simp; omega), List.getElem?_eq_none (by simp; omega)]
    rfl
theorem flag_out {n : Nat} {act : List Int} {i : Int} (h : ∀ k : Nat, k < n → (k : Int) ≠ i) : flagA n (act ++ [i]) = flagA n act := by
  unfold flagA
  apply List.map_congr_left
  intro k hk
  have := h k (List.mem_range.1 hk)
  simp
  exact fun e => absurd e this
theorem flag_set {n : Nat} {act : List Int} {k : Nat} (hk : k < n) : (flagA n act).set k [B true] = flagA n (act ++ [(k : Int)]) := by
  apply List.ext_getElem?
  intro j
  by_cases hj : j < n
  · rw [flag_at hj]
    by_cases e : k = j
    · subst e
      rw [List.getElem?_set_self (by rw [flag_len]; exact hk)]
      simp
    · rw [List.getElem?_set_ne e, flag_at hj]
      simp
      exact fun e2 => absurd (by omega) e
  · rw [List.getElem?_eq_none (by rw [List.length_set, flag_len]; omega), List.getElem?_eq_none (by rw [flag_len]; omega)]
theorem many_to {act : List Int} {ks : List Nat} {j k : Nat} (hk : ks[j]? = some k) : manyI act (ks.take (j + 1)) = manyI act (ks.take j) + if act.contains (k : Int) = true then 1 else 0 := by
  unfold manyI
  rw [List.take_add_one, hk, List.filter_append, List.length_append]
  simp only [Option.toList_some, List.filter_cons, List.filter_nil]
  split <;> rfl
theorem zL_int (l : List Nat) : (zL l).map intAV = l.map natAV := by simp only [zL, List.map_map]; rfl
theorem zL_len (l : List Nat) : (zL l).length = l.length := List.length_map ..
/-! slices.Sort of ints -/
def intC (k : Int) : List Value := [.int .i64 k]
def sortZ (l : List Int) : List Int := l.mergeSort fun x y => decide (x ≤ y)
theorem holds_mapI {w : World} {g : Nat} {l : List Int} (h : Holds id w g 0 (l.map (Value.int .i64)).toArray) : Holds (Value.int .i64) w g 0 l.toArray := fun j hj => by
  have hj' : j < l.length := by simpa using hj
  have := h j (by simpa using hj')
  rw [getElem!_pos _ j (by simpa using hj')] at this
  rw [getElem!_pos _ j hj]
  simpa using this
theorem Tryz.sortIEnter : ∀ (args : Array Value) (w : World), (callFunc 107 args).run Tryz.prog w = .ok (.enter 107 args) w := enters_of Tryz.func107 (by kernel_rfl) rfl
theorem sortI_turns (l : List Int) (hl : l.length < 4611686018427387904) : Turns Tryz.prog 107 [] 3 1 (l.map intC) ((sortZ l).map intC) := by
  by_cases h0 : l = []
  · subst h0
    rw [show sortZ [] = [] by simp [sortZ]]
    exact turns_none Tryz.sortIEnter fun p cap w => Any.slices_Sort_int_none Tryz.sortI p cap w
  · refine turns_base (by rw [List.length_map]; exact List.length_pos_iff.2 h0) Tryz.sortIEnter (by simp [sortZ]) (fun x hx => ?_) (fun x hx => ?_) fun w g cap hH hg => ?_
    · obtain ⟨y, _, rfl⟩ := List.mem_map.1 hx; rfl
    · obtain ⟨y, _, rfl⟩ := List.mem_map.1 hx
      exact ⟨rfl, fun u hu => by rw [List.mem_singleton.1 hu]; rfl⟩
    · have hH : Holds id w g 0 (l.map (Value.int .i64)).toArray := by rw [← flat_one]; exact hH
      have := Any.slices_Sort_int Tryz.sortI g 0 cap l w (holds_mapI hH) hg hl
      rw [List.length_map]
      refine (show Calls Tryz.prog 107 #[.slice (some ⟨g, 0, none⟩) l.length cap] w _ from this).mono ?_
      rintro ex w' ⟨rfl, n, os, rfl⟩
      refine ⟨rfl, n, os, ?_⟩
      rw [putRow_id, show ((sortZ l).map intC).flatten = (sortZ l).map (Value.int .i64) from flat_one (Value.int .i64) _]
      simp [sortZ]
end Go.Proofs.YtlmekdfleciejaaGreatDoor
