/- The document's words on tables: At, Begin, Memories. -/
import Derived.Test.YthffdneigmbgfaaGreatDoorM4
import Derived.Test.YthffdneigmbgfaaGreatDoorM28
import Derived.Test.YthffdneigmbgfaaGreatDoorM7
namespace Go.Proofs.YthffdneigmbgfaaGreatDoor
open Go.RowKit
theorem Str.seq {sz : Nat} {es' es : List (List AV)} (hl : es'.length = es.length) (hs : ∀ (i : Nat) (e' e : List AV), es'[i]? = some e' → es[i]? = some e → Strs e' e) : Str (.seq sz es') (.seq sz es) := fun S w v h => by
  have cell : ∀ {i j : Nat} {c : AV}, cellAt es i j = some c → ∃ c', cellAt es' i j = some c' ∧ Str c' c := fun {i j c} hc => by
    unfold cellAt at hc ⊢
    cases he : es[i]? with
    | none => rw [he] at hc; cases hc
    | some e =>
      rw [he] at hc
      have hi := (List.getElem?_eq_some_iff.1 he).1
      have he' : es'[i]? = some es'[i] := List.getElem?_eq_getElem (by omega)
      obtain ⟨h1, h2⟩ := hs i _ e he' he
      have hj := (List.getElem?_eq_some_iff.1 (show e[j]? = some c from hc)).1
      rw [he']
      exact ⟨es'[i][j], List.getElem?_eq_getElem (by omega), h2 j _ c (List.getElem?_eq_getElem (by omega)) hc⟩
  cases h with
  | seq A n cap sz es' b o u hn hcap hA hz hc hr =>
    refine .seq A n cap sz es b o u (by omega) hcap hA (fun i e he => ?_) (fun i j c h => ?_) fun i j c h => ?_
    · have hi := (List.getElem?_eq_some_iff.1 he).1
      have he' : es'[i]? = some es'[i] := List.getElem?_eq_getElem (by omega)
      rw [← (hs i _ e he' he).1]
      exact hz i _ he'
    · obtain ⟨c', h1, _⟩ := cell h
      exact hc i j c' h1
    · obtain ⟨c', h1, h2⟩ := cell h
      exact h2 _ _ _ (hr i j c' h1)
theorem Strs.one {c' c : AV} (h : Str c' c) : Strs [c'] [c] := .cons h .nil
def Strss (es' es : List (List AV)) : Prop := es'.length = es.length ∧ ∀ (i : Nat) (e' e : List AV), es'[i]? = some e' → es[i]? = some e → Strs e' e
theorem Strss.nil : Strss [] [] := ⟨rfl, fun i c' c h _ => by simp at h⟩
theorem Strss.cons {e' e : List AV} {es' es : List (List AV)} (h : Strs e' e) (hs : Strss es' es) : Strss (e' :: es') (e :: es) := ⟨by simp [hs.1], fun i a b ha hb => by
  cases i with
  | zero =>
    simp only [List.getElem?_cons_zero, Option.some.injEq] at ha hb
    subst ha hb
    exact h
  | succ i => exact hs.2 i a b (by simpa using ha) (by simpa using hb)⟩
theorem Str.seqs {sz : Nat} {es' es : List (List AV)} (h : Strss es' es) : Str (.seq sz es') (.seq sz es) := .seq h.1 h.2
end Go.Proofs.YthffdneigmbgfaaGreatDoor
set_option linter.unusedSimpArgs false
namespace Go.Proofs.YthffdneigmbgfaaGreatDoor
open Go.RowKit
set_option maxRecDepth 100000
set_option maxHeartbeats 4000000
def lightTB (c : ChD) : Bool := decide ((c.states.length : Int) ≤ 40) && decide ((c.trans.length : Int) ≤ 70) && decide ((c.vars.length : Int) ≤ 10)
theorem light28_con (env : Env) (c : ChD) : Con Tryz.prog env 57 [.agg (chAV c)] (B (lightTB c)) := by
  unfold lightTB
  by_cases h1 : (c.states.length : Int) ≤ 40 <;> by_cases h2 : (c.trans.length : Int) ≤ 70 <;> by_cases h3 : (c.vars.length : Int) ≤ 10
  all_goals (refine con_of_body Tryz.func57 rfl Tryz.call57 (by rw [Tryz.ntmps57]; simp) ?_
             rw [Tryz.ntmps57, Tryz.results57])
  all_goals have F := And.intro chAV.eq_1 <| And.intro h1 <| And.intro h2 <| h3
  all_goals (repeat refine st ?_)
  all_goals ((refine awp_ret ?_; show (resRd _ _ _).run _ = some _; simp only [go_sem, F]))
theorem rRight_con (env : Env) (c : ChD) : Con Tryz.prog env 67 [.agg (chAV c)] (B ((chk c).1 == 0)) := by
  have f0 := rCheck_con env c
  unfold chkT at f0
  refine con_of_body Tryz.func67 rfl Tryz.call67 (by rw [Tryz.ntmps67]; simp) ?_
  rw [Tryz.ntmps67, Tryz.results67]
  repeat (first | refine st0 ?_ | refine cC0 f0 ?_)
  exact aR0
def goodB (c : ChD) : Bool := lightTB c && ((chk c).1 == 0)
theorem chk_at {c : ChD} (h : (chk c).1 = 0) : chk c = (0, -1) := by
  unfold chk at h ⊢
  split at h
  · simp at h
  rename_i h1
  rw [if_neg h1]
  split at h
  · simp at h
  rename_i h2
  rw [if_neg h2]
  split at h
  · simp at h
  rename_i h3
  try simp only at h ⊢
  split at h
  · simp at h
  rename_i h4
  try simp only at h ⊢
  split at h
  · simp at h
  rename_i h5
  rw [if_neg h5]
  split at h
  · simp at h
  · rfl
theorem good_full {c : ChD} (h : goodB c = true) : Full c := by
  unfold goodB at h
  rw [Bool.and_eq_true, beq_iff_eq] at h
  exact full_of h.2
theorem rests28_con (env : Env) (c : ChD) : Con Tryz.prog env 15 [.agg (chAV c)] (B (!goodB c)) := by
  have f0 := light28_con env c
  have f1 := rRight_con env c
  unfold goodB
  cases h1 : lightTB c <;> cases h2 : ((chk c).1 == 0)
  all_goals (rw [h1] at f0; rw [h2] at f1)
  all_goals (refine con_of_body Tryz.func15 rfl Tryz.call15 (by rw [Tryz.ntmps15]; simp) ?_
             rw [Tryz.ntmps15, Tryz.results15])
  all_goals (repeat (first | refine st0 ?_ | refine cC0 f0 ?_ | refine cC0 f1 ?_))
  all_goals ((refine awp_ret ?_; show (resRd _ _ _).run _ = some _; simp only [go_sem]))
theorem made28_none (env : Env) (c : ChD) (h : goodB c = false) : Con Tryz.prog env 14 [.agg (chAV c)] (.lit (.pointer none)) := by
  have f0 := light28_con env c
  have f1 := rRight_con env c
  unfold goodB at h
  cases h1 : lightTB c
  · rw [h1] at f0
    refine con_of_body Tryz.func14 rfl Tryz.call14 (by rw [Tryz.ntmps14]; simp) ?_
    rw [Tryz.ntmps14, Tryz.results14]
    repeat (first | refine st0 ?_ | refine cC0 f0 ?_ | refine cC0 f1 ?_)
    exact aR0
  · rw [h1] at f0
    rw [h1, Bool.true_and] at h
    rw [h] at f1
    refine con_of_body Tryz.func14 rfl Tryz.call14 (by rw [Tryz.ntmps14]; simp) ?_
    rw [Tryz.ntmps14, Tryz.results14]
    repeat (first | refine st0 ?_ | refine cC0 f0 ?_ | refine cC0 f1 ?_)
    exact aR0
theorem made28_con (env : Env) (a1 a8 : Addr) (he : ChEnv env a1 a8) (hT : ∀ W, env.inv W → TabAt W) (c : ChD) (hcf : few_ch c) (h : goodB c = true) : Con Tryz.prog env 14 [.agg (chAV c)] (tabAV c) := by
  have f0 := light28_con env c
  have f1 := rRight_con env c
  unfold goodB at h
  rw [Bool.and_eq_true] at h
  rw [h.1] at f0
  rw [h.2] at f1
  rw [beq_iff_eq] at h
  have f2 := table_con env a1 a8 he hT c (chk_at h.2) hcf
  unfold tabAV at f2 ⊢
  refine con_of_body Tryz.func14 rfl Tryz.call14 (by rw [Tryz.ntmps14]; simp) ?_
  rw [Tryz.ntmps14, Tryz.results14]
  repeat (first | refine st0 ?_ | refine cC0 f0 ?_ | refine cC0 f1 ?_ | refine cC0 f2 ?_)
  exact aR0
def wakeD : ChD := ⟨[99], 0, [], [⟨[97], 1, -1, -1, [], []⟩], [⟨0, [120], [], [], -1⟩, ⟨0, [], [], [], 0⟩]⟩
def wakeAV : List AV := [Sg [99], I 0, nilS, .seq 6 [[Sg [97], I 1, I (-1), I (-1), nilS, nilS]], .seq 5 [[I 0, Sg [120], nilS, nilS, I (-1)], [I 0, Sg [], nilS, nilS, I 0]]]
theorem wake_str : Strs [.agg wakeAV] [.agg (chAV wakeD)] := by
  refine .one (.agg (.cons (.refl _) (.cons (.refl _) (.cons (.nil 2) (.cons (.seqs ?_) (.cons (.seqs ?_) .nil))))))
  · exact .cons (.cons (.refl _) (.cons (.refl _) (.cons (.refl _) (.cons (.refl _) (.cons (.nil 4) (.cons (.nil 4) .nil)))))) .nil
  · exact .cons (.cons (.refl _) (.cons (.refl _) (.cons (.nil 2) (.cons (.nil 4) (.cons (.refl _) .nil))))) (.cons (.cons (.refl _) (.cons (.refl _) (.cons (.nil 2) (.cons (.nil 4) (.cons (.refl _) .nil))))) .nil)
theorem wake_few : few_ch wakeD := by simp [few_ch, few_st, few_tr, wakeD, maxLen]
theorem wake_chk : chk wakeD = (0, -1) := by decide +kernel
theorem awake28_con (env : Env) (a1 a8 : Addr) (he : ChEnv env a1 a8) (hT : ∀ W, env.inv W → TabAt W) : Con Tryz.prog env 16 [] (B true) := by
  have f0 := (table_con env a1 a8 he hT wakeD wake_chk wake_few).args wake_str
  have f1 := tabEvent_con env wakeD (by decide) [120]
  have f2 := tabAt_con env wakeD (by decide) 0 0
  have f3 := tabAuto_con env wakeD (by decide) 0
  have f4 := tabTree_con env wakeD
  have f5 := tlen_con env wakeD
  rw [show evI wakeD [120] = 0 by decide +kernel] at f1
  rw [show tatL wakeD 0 0 = [0] by decide +kernel] at f2
  rw [show atL wakeD 0 (-1) = [1] by decide +kernel] at f3
  rw [show wakeD.states.length = 1 from rfl] at f5
  unfold wakeAV at f0
  unfold treeAV at f4 f5
  unfold tabAV at f0 f1 f2 f3 f4
  generalize tabCells wakeD = T at *
  refine con_of_body Tryz.func16 rfl Tryz.call16 (by rw [Tryz.ntmps16]; simp) ?_
  rw [Tryz.ntmps16, Tryz.results16]
  repeat (first | refine st0 ?_ | refine cC0 f0 ?_ | refine cC0 f1 ?_ | refine cC0 f2 ?_ | refine cC0 f3 ?_ | refine cC0 f4 ?_ | refine cC0 f5 ?_)
  exact aR0
end Go.Proofs.YthffdneigmbgfaaGreatDoor
set_option linter.unusedSimpArgs false
namespace Go.Proofs.YthffdneigmbgfaaGreatDoor
open Go.RowKit
set_option maxRecDepth 100000
set_option maxHeartbeats 4000000
def refAtP (c : ChD) (i : Int) (s : List UInt8) (k : Nat) : Bool := match c.trans[k]? with | some t => decide (t.src = i ∧ t.event = s) | none => false
def refAtTo (c : ChD) (i : Int) (s : List UInt8) (j : Nat) : List Nat := (List.range j).filter (refAtP c i s)
theorem pfilter_succ (p : Nat → Bool) (j : Nat) : (List.range (j + 1)).filter p = if p j then (List.range j).filter p ++ [j] else (List.range j).filter p := by
  rw [List.range_succ, List.filter_append]
  cases hb : p j <;> simp [hb]
theorem pfilter_len (p : Nat → Bool) (j : Nat) : ((List.range j).filter p).length ≤ j := Nat.le_trans (List.length_filter_le ..) (by simp)
theorem rAt_con (env : Env) (c : ChD) (hc : c.trans.length ≤ 4000) (i : Int) (s : List UInt8) : Con Tryz.prog env 19 [.agg (chAV c), I i, Sg s] (.own 3 1 ((refAtTo c i s c.trans.length).map natAV)) := by
  refine con_of_body Tryz.func19 rfl Tryz.call19 (by rw [Tryz.ntmps19]; simp) ?_
  rw [Tryz.ntmps19, Tryz.results19]
  have F := chAV.eq_1
  repeat refine st ?_
  refine awp_loopH (D := Nat) (fun j vs => [(1, I i), (2, Sg s), (3, .loc 3 (vs 3) 0 0), (7, .row 9 (vs 9)), (8, I j)]) (fun j _ => [(3, ⟨5, [chAV c], 26, false⟩), (9, ⟨1, (refAtTo c i s j).map natAV, 3, true⟩)]) (fun j _ esc => j ≤ c.trans.length ∧ esc 9 = false) (fun j => c.trans.length - j) 0 ?_ ?_ ?_ ?_
  · exact ⟨Nat.zero_le _, rfl⟩
  · (simp only [go_sem, F])
  · have F := chAV.eq_1
    (simp only [go_sem, F])
    try rfl
  rintro j ws esc ⟨hj, e0⟩
  by_cases hlt : j < c.trans.length
  · obtain ⟨t, ht⟩ : ∃ t, c.trans[j]? = some t := ⟨c.trans[j], List.getElem?_eq_getElem hlt⟩
    have g1 := nlt hlt
    have g2 := wrap_succ hlt (by omega)
    have hn : refAtTo c i s (j + 1) = if refAtP c i s j then refAtTo c i s j ++ [j] else refAtTo c i s j := pfilter_succ (refAtP c i s) j
    have hl : (refAtTo c i s j).length ≤ j := pfilter_len (refAtP c i s) j
    have hf : Fits ((refAtTo c i s j).length + 1) 8 := fits_small (by omega) (by omega)
    have hp : refAtP c i s j = decide (t.src = i ∧ t.event = s) := by unfold refAtP; rw [ht]
    rw [hp] at hn
    by_cases h1 : t.src = i
    · by_cases h2 : t.event = s
      · rw [if_pos (by simp [h1, h2])] at hn
        have b1 : (t.src == i) = true := by simpa using h1
        have b2 : (t.event == s) = true := by simpa using h2
        have F := And.intro chAV.eq_1 <| And.intro trAV.eq_1 <| And.intro g1 <| And.intro g2 <| And.intro ht <| And.intro b1 <| And.intro b2 <| And.intro hf <| e0
        repeat refine st ?_
        refine ⟨j + 1, ⟨hlt, by simp only [go_sem, e0]⟩, ?_, ?_, by omega⟩
        · (simp only [go_sem, F])
        · have F := And.intro chAV.eq_1 <| And.intro natAV.eq_1 <| hn
          (simp only [go_sem, List.map_append, F])
      · rw [if_neg (by simp [h2])] at hn
        have b1 : (t.src == i) = true := by simpa using h1
        have b2 : (t.event == s) = false := by simpa using h2
        have F := And.intro chAV.eq_1 <| And.intro trAV.eq_1 <| And.intro g1 <| And.intro g2 <| And.intro ht <| And.intro b1 <| And.intro b2 <| And.intro hf <| e0
        repeat refine st ?_
        refine ⟨j + 1, ⟨hlt, by simp only [go_sem, e0]⟩, ?_, ?_, by omega⟩
        · (simp only [go_sem, F])
        · have F := And.intro chAV.eq_1 <| And.intro natAV.eq_1 <| hn
          (simp only [go_sem, List.map_append, F])
    · rw [if_neg (by simp [h1])] at hn
      have b1 : (t.src == i) = false := by simpa using h1
      have F := And.intro chAV.eq_1 <| And.intro trAV.eq_1 <| And.intro g1 <| And.intro g2 <| And.intro ht <| And.intro b1 <| And.intro hf <| e0
      repeat refine st ?_
      refine ⟨j + 1, ⟨hlt, by simp only [go_sem, e0]⟩, ?_, ?_, by omega⟩
      · (simp only [go_sem, F])
      · have F := And.intro chAV.eq_1 <| And.intro natAV.eq_1 <| hn
        (simp only [go_sem, List.map_append, F])
  · obtain rfl : j = c.trans.length := by omega
    have g1 : ¬ (c.trans.length : Int) < (c.trans.length : Int) := by omega
    have F := And.intro chAV.eq_1 <| And.intro g1 <| e0
    repeat refine st ?_
    exact aR
theorem refAt_auto (c : ChD) (i : Int) : refAtTo c i [] c.trans.length = atL c i (-1) := by
  have := at_ref (c := c) i [] (.inl rfl)
  rw [evI_nil] at this
  rw [this]
  rfl
theorem refAt_name (c : ChD) (i : Int) {s : List UInt8} (hs : s ≠ []) : refAtTo c i s c.trans.length = tatL c i (evI c s) := by
  by_cases h : s ∈ evL c
  · obtain ⟨k, h1, _⟩ := evI_in h
    have := at_ref (c := c) i s (.inr h)
    unfold tatL
    rw [if_neg (by omega), this]
    rfl
  · unfold tatL
    rw [evI_out h, if_pos (by omega)]
    unfold refAtTo
    rw [List.filter_eq_nil_iff]
    intro k hk hp
    unfold refAtP at hp
    cases ht : c.trans[k]? with
    | none => rw [ht] at hp; cases hp
    | some t =>
      rw [ht] at hp
      simp only [decide_eq_true_eq] at hp
      exact h (ev_mem.2 ⟨hs, t, List.mem_of_getElem? ht, hp.2⟩)
theorem rBegins_con (env : Env) (c : ChD) (h : Full c) : ∀ (n i : Nat), i < c.states.length → c.states.length ≤ i + n → Con Tryz.prog env 79 [.agg (chAV c), I i] (.own 3 1 ((bgL c i).map natAV))
  | 0, i, hi, hn => by omega
  | n + 1, i, hi, hn => by
    have hlen := h.few
    obtain ⟨s, hs⟩ : ∃ s, c.states[i]? = some s := ⟨c.states[i], List.getElem?_eq_getElem hi⟩
    have hb := bg_ref h hs
    have hbl := bg_len h hi
    have g0 : ((i : Nat) : Int) < (c.states.length : Int) := by omega
    have f0 := rKids_con env c i true (by omega)
    have hKl := kids_few h.toRight i true
    have hKm : ∀ k ∈ kidsL c i true, i < k ∧ k < c.states.length := fun k hk => by
      have := kid_gt h.toRight (kid_real hk).1
      omega
    generalize kidsL c i true = K at *
    rw [hb]
    rw [hb] at hbl
    simp only [List.length_cons] at hbl
    refine con_of_body Tryz.func79 rfl Tryz.call79 (by rw [Tryz.ntmps79]; simp) ?_
    rw [Tryz.ntmps79, Tryz.results79]
    have F := And.intro chAV.eq_1 <| natAV.eq_1
    repeat (first | refine st ?_ | refine cC f0 ?_)
    refine awp_loopH (D := Nat) (fun j vs => [(1, I i), (2, .loc 2 (vs 2) 0 0), (5, .row 9 (vs 9)), (6, .row 12 (vs 12)), (7, I j)]) (fun j _ => [(2, ⟨5, [chAV c], 26, false⟩), (9, ⟨1, (i :: (K.take j).flatMap fun k => if s.kind = 2 ∨ s.initial = (k : Nat) then bgL c k else []).map natAV, 3, true⟩), (12, ⟨1, K.map natAV, 3, true⟩)]) (fun j _ esc => j ≤ K.length ∧ esc 9 = false) (fun j => K.length - j) 0 ?_ ?_ ?_ ?_
    · exact ⟨Nat.zero_le _, rfl⟩
    · (simp only [go_sem, F])
    · have F := And.intro chAV.eq_1 <| natAV.eq_1
      (simp only [go_sem, List.flatMap_nil, F])
      try rfl
    rintro j ws esc ⟨hj, e0⟩
    by_cases hlt : j < K.length
    · obtain ⟨k, hk⟩ : ∃ k, K[j]? = some k := ⟨K[j], List.getElem?_eq_getElem hlt⟩
      have hkm := hKm k (List.mem_of_getElem? hk)
      have q1 := nlt hlt
      have q2 := wrap_succ hlt (by omega)
      have f1 := rBegins_con env c h n k (by omega) (by omega)
      have hp := flat_pre (fun k : Nat => if s.kind = 2 ∨ s.initial = (k : Nat) then bgL c k else []) K (j + 1)
      have hsu := flat_succ (fun k : Nat => if s.kind = 2 ∨ s.initial = (k : Nat) then bgL c k else []) hk
      rw [hsu] at hp
      simp only [List.length_append] at hp
      generalize hA : (K.take j).flatMap (fun k : Nat => if s.kind = 2 ∨ s.initial = (k : Nat) then bgL c k else []) = A at *
      by_cases h2 : s.kind = 2
      · have b1 : (s.kind == 2) = true := by simpa using h2
        rw [if_pos (.inl h2)] at hp hsu
        have hf : Fits (A.length + 1 + (bgL c k).length) 8 := fits_small (by omega) (by omega)
        have F := And.intro chAV.eq_1 <| And.intro stAV.eq_1 <| And.intro natAV.eq_1 <| And.intro hs <| And.intro hk <| And.intro q1 <| And.intro q2 <| And.intro g0 <| And.intro b1 <| And.intro hf <| e0
        repeat (first | refine st ?_ | refine cC f1 ?_)
        refine ⟨j + 1, ⟨hlt, by simp only [go_sem, e0]⟩, ?_, ?_, by omega⟩
        · (simp only [go_sem, F])
        · have F := And.intro chAV.eq_1 <| And.intro natAV.eq_1 <| hsu
          (simp only [go_sem, List.map_append, F])
      · have b1 : (s.kind == 2) = false := by simpa using h2
        by_cases h3 : s.initial = (k : Nat)
        · have b2 : (s.initial == ((k : Nat) : Int)) = true := by simpa using h3
          rw [if_pos (.inr h3)] at hp hsu
          have hf : Fits (A.length + 1 + (bgL c k).length) 8 := fits_small (by omega) (by omega)
          have F := And.intro chAV.eq_1 <| And.intro stAV.eq_1 <| And.intro natAV.eq_1 <| And.intro hs <| And.intro hk <| And.intro q1 <| And.intro q2 <| And.intro g0 <| And.intro b1 <| And.intro b2 <| And.intro hf <| e0
          repeat (first | refine st ?_ | refine cC f1 ?_)
          refine ⟨j + 1, ⟨hlt, by simp only [go_sem, e0]⟩, ?_, ?_, by omega⟩
          · (simp only [go_sem, F])
          · have F := And.intro chAV.eq_1 <| And.intro natAV.eq_1 <| hsu
            (simp only [go_sem, List.map_append, F])
        · have b2 : (s.initial == ((k : Nat) : Int)) = false := by simpa using h3
          rw [if_neg (by simp [h2, h3]), List.append_nil] at hsu
          have F := And.intro chAV.eq_1 <| And.intro stAV.eq_1 <| And.intro natAV.eq_1 <| And.intro hs <| And.intro hk <| And.intro q1 <| And.intro q2 <| And.intro g0 <| And.intro b1 <| And.intro b2 <| e0
          repeat (first | refine st ?_ | refine cC f1 ?_)
          refine ⟨j + 1, ⟨hlt, by simp only [go_sem, e0]⟩, ?_, ?_, by omega⟩
          · (simp only [go_sem, F])
          · have F := And.intro chAV.eq_1 <| And.intro natAV.eq_1 <| hsu
            (simp only [go_sem, List.map_append, F])
    · obtain rfl : j = K.length := by omega
      have q1 : ¬ (K.length : Int) < (K.length : Int) := by omega
      have hta : K.take K.length = K := List.take_length
      have F := And.intro natAV.eq_1 <| And.intro q1 <| And.intro hta <| e0
      repeat refine st ?_
      exact aR
theorem rBegin_con (env : Env) (c : ChD) (h : Full c) (i : Int) : Con Tryz.prog env 29 [.agg (chAV c), I i] (.own 3 1 ((tbegL c i).map natAV)) := by
  have hlen := h.few
  have key : ∀ (k : Nat), k < c.states.length → ∀ (x : Int), (x = -1 ∧ c.initial = k ∨ x = k) → Con Tryz.prog env 29 [.agg (chAV c), I x] (.own 3 1 ((sbL c k).map natAV)) := fun k hk x hx => by
    obtain ⟨s, hs⟩ : ∃ s, c.states[k]? = some s := ⟨c.states[k], List.getElem?_eq_getElem hk⟩
    have f0 := rIs_con env c k
    rw [show inZ c k = true from inZ_nat.2 hk] at f0
    have f1 := rMemory_con env s
    have f2 := rBegins_con env c h 40 k hk (by omega)
    have f3 := rSort_con env c h.toRight (bgL c k) (by have := bg_len h hk; omega)
    change Con _ _ _ _ (.own _ 1 ((sbL c k).map natAV)) at f3
    have g0 : ((k : Nat) : Int) < (c.states.length : Int) := by omega
    rcases hx with ⟨rfl, hx⟩ | rfl
    · cases hm : memyB s with
      | true =>
        rw [hm] at f1
        rw [sb_alone h hs hm]
        refine con_of_body Tryz.func29 rfl Tryz.call29 (by rw [Tryz.ntmps29]; simp) ?_
        rw [Tryz.ntmps29, Tryz.results29]
        have F := And.intro chAV.eq_1 <| And.intro stAV.eq_1 <| And.intro hx <| And.intro hs <| And.intro g0 <| natAV.eq_1
        repeat (first | refine st ?_ | refine cC f0 ?_ | refine cC f1 ?_)
        exact aR
      | false =>
        rw [hm] at f1
        refine con_of_body Tryz.func29 rfl Tryz.call29 (by rw [Tryz.ntmps29]; simp) ?_
        rw [Tryz.ntmps29, Tryz.results29]
        have F := And.intro chAV.eq_1 <| And.intro stAV.eq_1 <| And.intro hx <| And.intro hs <| g0
        repeat (first | refine st ?_ | refine cC f0 ?_ | refine cC f1 ?_ | refine cC f2 ?_ | refine cC f3 ?_)
        exact aR
    · have b0 : ((k : Int) == -1) = false := beq_false_of_ne (by omega)
      cases hm : memyB s with
      | true =>
        rw [hm] at f1
        rw [sb_alone h hs hm]
        refine con_of_body Tryz.func29 rfl Tryz.call29 (by rw [Tryz.ntmps29]; simp) ?_
        rw [Tryz.ntmps29, Tryz.results29]
        have F := And.intro chAV.eq_1 <| And.intro stAV.eq_1 <| And.intro hs <| And.intro g0 <| And.intro natAV.eq_1 <| b0
        repeat (first | refine st ?_ | refine cC f0 ?_ | refine cC f1 ?_)
        exact aR
      | false =>
        rw [hm] at f1
        refine con_of_body Tryz.func29 rfl Tryz.call29 (by rw [Tryz.ntmps29]; simp) ?_
        rw [Tryz.ntmps29, Tryz.results29]
        have F := And.intro chAV.eq_1 <| And.intro stAV.eq_1 <| And.intro hs <| And.intro g0 <| b0
        repeat (first | refine st ?_ | refine cC f0 ?_ | refine cC f1 ?_ | refine cC f2 ?_ | refine cC f3 ?_)
        exact aR
  unfold tbegL
  by_cases e : i = -1
  · subst e
    simp only [if_true]
    obtain ⟨s, hs, hini, _⟩ := h.topS
    have hi := (List.getElem?_eq_some_iff.1 hs).1
    rw [hini, if_pos (inZ_nat.2 hi), Int.toNat_natCast]
    exact key _ hi (-1) (.inl ⟨rfl, hini⟩)
  · rw [if_neg e]
    cases hz : inZ c i with
    | false =>
      have f0 := rIs_con env c i
      rw [hz] at f0
      rw [if_neg (by simp)]
      have b0 : (i == -1) = false := by simpa using e
      refine con_of_body_w Tryz.func29 rfl Tryz.call29 (by rw [Tryz.ntmps29]; simp) ?_
      rw [Tryz.ntmps29, Tryz.results29]
      have F := And.intro chAV.eq_1 <| b0
      repeat (first | refine st ?_ | refine cC f0 ?_)
      (refine awp_ret ?_; refine ⟨_, (by show (resRd _ _ _).run _ = some _; simp only [go_sem, F]; rfl), ?_⟩)
      exact RStr.own_nil _ _ (by decide)
    | true =>
      obtain ⟨k, s, rfl, hs, ha⟩ := at_in hz
      rw [if_pos rfl, Int.toNat_natCast]
      exact key k (List.getElem?_eq_some_iff.1 hs).1 k (.inr rfl)
def memPTo (c : ChD) (i : Int) (j : Nat) : List Nat := (List.range j).filter (memP c i)
theorem rMem_con (env : Env) (c : ChD) (hc : c.states.length ≤ 4000) (i : Int) : Con Tryz.prog env 32 [.agg (chAV c), I i] (.own 3 1 ((memL c i).map natAV)) := by
  have f0 := rIs_con env c i
  show Con _ _ _ _ (.own _ 1 ((memPTo c i c.states.length).map natAV))
  refine con_of_body Tryz.func32 rfl Tryz.call32 (by rw [Tryz.ntmps32]; simp) ?_
  rw [Tryz.ntmps32, Tryz.results32]
  have F := chAV.eq_1
  repeat refine st ?_
  refine awp_loopH (D := Nat) (fun j vs => [(1, I i), (2, .loc 2 (vs 2) 0 0), (5, .row 7 (vs 7)), (6, I j)]) (fun j _ => [(2, ⟨5, [chAV c], 26, false⟩), (7, ⟨1, (memPTo c i j).map natAV, 3, true⟩)]) (fun j _ esc => j ≤ c.states.length ∧ esc 7 = false) (fun j => c.states.length - j) 0 ?_ ?_ ?_ ?_
  · exact ⟨Nat.zero_le _, rfl⟩
  · (simp only [go_sem, F])
  · have F := chAV.eq_1
    (simp only [go_sem, F])
    try rfl
  rintro j ws esc ⟨hj, e0⟩
  by_cases hlt : j < c.states.length
  · obtain ⟨s, hs⟩ : ∃ t, c.states[j]? = some t := ⟨c.states[j], List.getElem?_eq_getElem hlt⟩
    have g1 := nlt hlt
    have g2 := wrap_succ hlt (by omega)
    have f1 := rMemory_con env s
    have hn : memPTo c i (j + 1) = if memP c i j then memPTo c i j ++ [j] else memPTo c i j := pfilter_succ (memP c i) j
    have hl : (memPTo c i j).length ≤ j := pfilter_len (memP c i) j
    have hf : Fits ((memPTo c i j).length + 1) 8 := fits_small (by omega) (by omega)
    have hp : memP c i j = (inZ c i && ((s.parent == i) && memyB s)) := by unfold memP; rw [hs]
    rw [hp] at hn
    cases b1 : inZ c i <;> cases b2 : (s.parent == i) <;> cases b3 : memyB s
    all_goals (rw [b1] at f0 hn; rw [b2, b3] at hn; rw [b3] at f1; simp only [Bool.and_true, Bool.and_false, if_true, Bool.false_eq_true, if_false] at hn)
    all_goals have F := And.intro chAV.eq_1 <| And.intro stAV.eq_1 <| And.intro g1 <| And.intro g2 <| And.intro hs <| And.intro b2 <| And.intro hf <| e0
    all_goals (repeat (first | refine st ?_ | refine cC f0 ?_ | refine cC f1 ?_))
    all_goals (refine ⟨j + 1, ⟨hlt, by simp only [go_sem, e0]⟩, ?_, ?_, by omega⟩)
    all_goals (first | ((simp only [go_sem, F]); done) | skip)
    all_goals have F := And.intro chAV.eq_1 <| And.intro natAV.eq_1 <| hn
    all_goals ((simp only [go_sem, List.map_append, F]))
  · obtain rfl : j = c.states.length := by omega
    have g1 : ¬ (c.states.length : Int) < (c.states.length : Int) := by omega
    have F := And.intro chAV.eq_1 <| And.intro g1 <| e0
    repeat refine st ?_
    exact aR
end Go.Proofs.YthffdneigmbgfaaGreatDoor
