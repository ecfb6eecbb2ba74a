/- Ways up and growing, as the program does them. -/
import Derived.Test.YtlmekdfleciejaaGreatDoorG1
import Derived.Test.YtlmekdfleciejaaGreatDoorG6
import Derived.Test.YtlmekdfleciejaaGreatDoorM8
import Derived.Test.YtlmekdfleciejaaGreatDoorG7
set_option linter.unusedSimpArgs false
namespace Go.Proofs.YtlmekdfleciejaaGreatDoor
open Go.RowKit
set_option maxRecDepth 100000
set_option maxHeartbeats 8000000
def undR (c : ChD) (act : List Int) (i : Int) : List Int := (zL (sortL c act)).filter (aboveB c i)
def undTo (c : ChD) (l : List Int) (i : Int) (j : Nat) : List Int := (l.take j).filter (aboveB c i)
theorem undTo_succ {c : ChD} {l : List Int} {i : Int} {j : Nat} {x : Int} (h : l[j]? = some x) : undTo c l i (j + 1) = if aboveB c i x then undTo c l i j ++ [x] else undTo c l i j := by
  unfold undTo
  rw [List.take_add_one, h, List.filter_append]
  cases hb : aboveB c i x <;> simp [hb]
theorem undTo_len (c : ChD) (l : List Int) (i : Int) (j : Nat) : (undTo c l i j).length ≤ l.length := by
  unfold undTo
  exact Nat.le_trans (List.length_filter_le ..) (by rw [List.length_take]; omega)
theorem sortL_few {c : ChD} (hc : Right c) (act : List Int) : (sortL c act).length ≤ 32 := by
  unfold sortL
  split
  · exact Nat.le_trans (List.length_filter_le ..) (walk_few hc (by omega))
  · simp
theorem left_con (env : Env) (c : ChD) (hc : Right c) (act : List Int) (hl : act.length ≤ 1000000) (d : Int) : Con Tryz.prog env 120 [tabAV c, .seq 1 (act.map intAV), I d] (.own 3 1 ((undR c act d).reverse.map intAV)) := by
  have f1 := tabTree_con env c
  have f2 := tsort_con env c hc act hl
  have hsl := sortL_few hc act
  rw [← zL_int] at f2
  unfold undR
  have hsl : (zL (sortL c act)).length ≤ 32 := by rw [zL_len]; exact hsl
  generalize zL (sortL c act) = L at *
  unfold tabAV treeAV at f1
  unfold treeAV at f2
  unfold tabAV
  refine con_of_body Tryz.func120 rfl Tryz.call120 (by rw [Tryz.ntmps120]; simp) ?_
  rw [Tryz.ntmps120, Tryz.results120]
  repeat (first | refine st0 ?_ | refine cC0 f1 ?_ | refine cC0 f2 ?_)
  refine awp_nilrow 7 7 3 1 ?_
  refine awp_loopH (D := Nat) (fun j vs => [(0, .ref 9 [tabCells c] 0 0), (2, I d), (7, .row 7 (vs 7)), (13, .row 13 (vs 13)), (14, I L.length), (15, I j)]) (fun j _ => [(7, ⟨1, (undTo c L d j).map intAV, 3, true⟩), (13, ⟨1, L.map intAV, 3, true⟩)]) (fun j _ esc => j ≤ L.length ∧ esc 7 = false) (fun j => L.length - j) 0 ?_ ?_ ?_ ?_
  · exact ⟨Nat.zero_le _, rfl⟩
  · (simp only [go_sem])
    try rfl
  · (simp only [go_sem])
    try rfl
  rintro j ws esc ⟨hj, e0⟩
  by_cases hlt : j < L.length
  · obtain ⟨x, hx⟩ : ∃ x, L[j]? = some x := ⟨L[j], List.getElem?_eq_getElem hlt⟩
    have q1 := nlt hlt
    have q2 := wrap_succ hlt (by omega)
    have f3 := tabove_con env c hc d x
    unfold treeAV at f3
    have hil := undTo_len c L d j
    have hf : Fits ((undTo c L d j).length + 1) 8 := fits_small (by omega) (by omega)
    have hn := undTo_succ (c := c) (i := d) hx
    cases hb : aboveB c d x with
    | true =>
      rw [hb] at f3
      rw [hb, if_pos rfl] at hn
      have F := And.intro q1 <| And.intro q2 <| And.intro hx <| And.intro hf <| e0
      repeat (first | refine st ?_ | refine cC f1 ?_ | refine cC f3 ?_)
      refine ⟨j + 1, ⟨hlt, by simp only [go_sem, e0]⟩, ?_, ?_, by omega⟩
      · (simp only [go_sem, F])
      · have F := hn
        (simp only [go_sem, List.map_append, F])
    | false =>
      rw [hb] at f3
      rw [hb, if_neg Bool.false_ne_true] at hn
      have F := And.intro q1 <| And.intro q2 <| And.intro hx <| And.intro hf <| e0
      repeat (first | refine st ?_ | refine cC f1 ?_ | refine cC f3 ?_)
      refine ⟨j + 1, ⟨hlt, by simp only [go_sem, e0]⟩, ?_, ?_, by omega⟩
      · (simp only [go_sem, F])
      · have F := hn
        (simp only [go_sem, List.map_append, F])
  · obtain rfl : j = L.length := by omega
    have q1 : ¬ (L.length : Int) < (L.length : Int) := by omega
    have hall : undTo c L d L.length = L.filter (aboveB c d) := by unfold undTo; rw [List.take_length]
    rw [hall]
    have hfl : (L.filter (aboveB c d)).length ≤ 32 := Nat.le_trans (List.length_filter_le ..) hsl
    generalize L.filter (aboveB c d) = U at *
    have f4 := revI_turns U (by omega)
    have F := And.intro q1 <| e0
    repeat refine st ?_
    refine g_turn 7 rfl (row := ⟨1, U.map intAV, 3, true⟩) f4 (Nat.succ_ne_zero 0) rfl (litEs_int _).symm (by simp only [go_sem, e0]; exact iR) (by simp only [go_sem, e0]; exact iR) (by simp only [go_sem, e0]; exact iR) (by simp only [go_sem, e0]; exact iR) ?_
    rw [litEs_int]
    repeat refine st ?_
    exact aR
theorem form30_con (env : Env) (a1 a8 : Addr) (he : ChEnv env a1 a8) (s : List UInt8) : Con Tryz.prog env 116 [Sg s] (errV (-1) (sentV a1)) := by
  have g1 := gt_at he.e1
  have f0 := new_con env s a1
  refine con_of_body Tryz.func116 rfl Tryz.call116 (by rw [Tryz.ntmps116]; simp) ?_
  rw [Tryz.ntmps116, Tryz.results116]
  have F := g1
  repeat (first | refine st ?_ | refine cC f0 ?_)
  exact aR
def leaveR (c : ChD) (act : List Int) (t : TrD) : List Int := if t.target < 0 then [] else (undR c act (domE c t.src t.target)).reverse
theorem LeaveE_con (env : Env) (a1 a8 : Addr) (he : ChEnv env a1 a8) (c : ChD) (h : Full c) (hs : Small c) (act : List Int) (hl : act.length ≤ 1000000) (n : Int) (hb : lgB c act = false) : Con Tryz.prog env 65 [tabAV c, .seq 1 (act.map intAV), I n] (.tuple [nilS, errV (-1) (errV (lgChk c act).2 (sentV a1))]) := by
  have f0 := check29g_con env a1 a8 he c h hs act hl
  have f1 := wrap_con env [101, 110, 116, 101, 114, 46, 76, 101, 97, 118, 101] (lgChk c act).2 (sentV a1)
  unfold chkE at f0
  rw [hb] at f0
  simp only [Bool.false_eq_true, if_false] at f0
  unfold tabAV at f0 ⊢
  refine con_of_body Tryz.func65 rfl Tryz.call65 (by rw [Tryz.ntmps65]; simp) ?_
  rw [Tryz.ntmps65, Tryz.results65]
  repeat (first | refine st0 ?_ | refine cC0 f0 ?_ | refine cC0 f1 ?_)
  exact aR0
theorem LeaveN_con (env : Env) (a1 a8 : Addr) (he : ChEnv env a1 a8) (c : ChD) (h : Full c) (hs : Small c) (act : List Int) (hl : act.length ≤ 1000000) (n : Int) (hb : lgB c act = true) (hn : isT c n = false) : Con Tryz.prog env 65 [tabAV c, .seq 1 (act.map intAV), I n] (.tuple [nilS, errV (-1) (sentV a1)]) := by
  have f0 := check29g_con env a1 a8 he c h hs act hl
  have f1 := tranN_con env c hs n hn
  have f2 := form30_con env a1 a8 he [101, 110, 116, 101, 114, 46, 76, 101, 97, 118, 101]
  unfold chkE at f0
  rw [hb] at f0
  simp only [if_true] at f0
  unfold tabAV at f0 f1 ⊢
  refine con_of_body Tryz.func65 rfl Tryz.call65 (by rw [Tryz.ntmps65]; simp) ?_
  rw [Tryz.ntmps65, Tryz.results65]
  repeat (first | refine st0 ?_ | refine cC0 f0 ?_ | refine cC0 f1 ?_ | refine cC0 f2 ?_)
  exact aR0
theorem Leave_con (env : Env) (a1 a8 : Addr) (he : ChEnv env a1 a8) (c : ChD) (h : Full c) (hs : Small c) (act : List Int) (hl : act.length ≤ 1000000) (k : Nat) (t : TrD) (ht : c.trans[k]? = some t) (hb : lgB c act = true) : Con Tryz.prog env 65 [tabAV c, .seq 1 (act.map intAV), I k] (.tuple [.seq 1 ((leaveR c act t).map intAV), nilE]) := by
  have f0 := check29g_con env a1 a8 he c h hs act hl
  have f1 := tran_con env c hs k t ht
  have f2 := domain_con env c h.toRight hs t (h.src ht).1
  have f3 := left_con env c h.toRight act hl (domE c t.src t.target)
  unfold chkE at f0
  rw [hb] at f0
  simp only [if_true] at f0
  unfold leaveR
  unfold trAV at f1 f2
  unfold tabAV at f0 f1 f2 f3 ⊢
  by_cases h0 : t.target < 0
  · rw [if_pos h0]
    refine con_of_body_w Tryz.func65 rfl Tryz.call65 (by rw [Tryz.ntmps65]; simp) ?_
    rw [Tryz.ntmps65, Tryz.results65]
    have F := h0
    repeat (first | refine st ?_ | refine cC f0 ?_ | refine cC f1 ?_ | refine cC f2 ?_ | refine cC f3 ?_)
    (refine awp_ret ?_; refine ⟨_, (by show (resRd _ _ _).run _ = some _; simp only [go_sem, F]; rfl), ?_⟩)
    exact .of (.tuple (.cons (.nil 1) (.cons (.refl _) .nil))) (fun _ _ _ h => by cases h) (fun _ _ _ h => by cases h)
  · rw [if_neg h0]
    refine con_of_body Tryz.func65 rfl Tryz.call65 (by rw [Tryz.ntmps65]; simp) ?_
    rw [Tryz.ntmps65, Tryz.results65]
    have F := h0
    repeat (first | refine st ?_ | refine cC f0 ?_ | refine cC f1 ?_ | refine cC f2 ?_ | refine cC f3 ?_)
    exact aR
theorem zL_of {l : List Int} (h : ∀ x ∈ l, 0 ≤ x) : l = zL (l.map Int.toNat) := by
  unfold zL
  rw [List.map_map]
  conv => lhs; rw [← List.map_id l]
  refine List.map_congr_left fun x hx => ?_
  have := h x hx
  simp only [id_eq, Function.comp]
  omega
theorem rSortI_con (env : Env) (c : ChD) (hc : Right c) (act : List Int) (hl : act.length ≤ 1000000) (hz : ∀ x ∈ act, 0 ≤ x) : Con Tryz.prog env 77 [.agg (chAV c), .seq 1 (act.map intAV)] (.own 3 1 ((sortL c act).map natAV)) := by
  have f := rSort_con env c hc (act.map Int.toNat) (by rw [List.length_map]; exact hl)
  rw [← zL_int, ← zL_of hz] at f
  exact f
theorem rUnder30_con (env : Env) (c : ChD) (hc : Right c) (act : List Int) (hl : act.length ≤ 1000000) (hz : ∀ x ∈ act, 0 ≤ x) (i : Int) : Con Tryz.prog env 54 [.agg (chAV c), .seq 1 (act.map intAV), I i] (.own 3 1 ((undR c act i).map intAV)) := by
  have f2 := rSortI_con env c hc act hl hz
  have hsl := sortL_few hc act
  rw [← zL_int] at f2
  unfold undR
  have hsl : (zL (sortL c act)).length ≤ 32 := by rw [zL_len]; exact hsl
  generalize zL (sortL c act) = L at *
  unfold chAV at f2
  refine con_of_body Tryz.func54 rfl Tryz.call54 (by rw [Tryz.ntmps54]; simp) ?_
  rw [Tryz.ntmps54, Tryz.results54]
  have F := chAV.eq_1
  repeat (first | refine st ?_ | refine cC f2 ?_)
  refine awp_loopH (D := Nat) (fun j vs => [(2, I i), (3, .loc 3 (vs 3) 0 0), (7, .row 10 (vs 10)), (8, .row 13 (vs 13)), (9, I j)]) (fun j _ => [(3, ⟨5, [chAV c], 26, false⟩), (10, ⟨1, (undTo c L i j).map intAV, 3, true⟩), (13, ⟨1, L.map intAV, 3, true⟩)]) (fun j _ esc => j ≤ L.length ∧ esc 10 = false) (fun j => L.length - j) 0 ?_ ?_ ?_ ?_
  · exact ⟨Nat.zero_le _, rfl⟩
  · (simp only [go_sem, F])
    try rfl
  · have F := chAV.eq_1
    (simp only [go_sem, F])
    try rfl
  rintro j ws esc ⟨hj, e0⟩
  by_cases hlt : j < L.length
  · obtain ⟨x, hx⟩ : ∃ x, L[j]? = some x := ⟨L[j], List.getElem?_eq_getElem hlt⟩
    have q1 := nlt hlt
    have q2 := wrap_succ hlt (by omega)
    have f3 := rAbove27_con env c hc i x
    unfold chAV at f3
    have hil := undTo_len c L i j
    have hf : Fits ((undTo c L i j).length + 1) 8 := fits_small (by omega) (by omega)
    have hn := undTo_succ (c := c) (i := i) hx
    cases hb : aboveB c i x with
    | true =>
      rw [hb] at f3
      rw [hb, if_pos rfl] at hn
      have F := And.intro chAV.eq_1 <| And.intro q1 <| And.intro q2 <| And.intro hx <| And.intro hf <| e0
      repeat (first | refine st ?_ | refine cC f3 ?_)
      refine ⟨j + 1, ⟨hlt, by simp only [go_sem, e0]⟩, ?_, ?_, by omega⟩
      · (simp only [go_sem, F])
      · have F := And.intro chAV.eq_1 <| hn
        (simp only [go_sem, List.map_append, F])
    | false =>
      rw [hb] at f3
      rw [hb, if_neg Bool.false_ne_true] at hn
      have F := And.intro chAV.eq_1 <| And.intro q1 <| And.intro q2 <| And.intro hx <| And.intro hf <| e0
      repeat (first | refine st ?_ | refine cC f3 ?_)
      refine ⟨j + 1, ⟨hlt, by simp only [go_sem, e0]⟩, ?_, ?_, by omega⟩
      · (simp only [go_sem, F])
      · have F := And.intro chAV.eq_1 <| hn
        (simp only [go_sem, List.map_append, F])
  · obtain rfl : j = L.length := by omega
    have q1 : ¬ (L.length : Int) < (L.length : Int) := by omega
    have hall : undTo c L i L.length = L.filter (aboveB c i) := by unfold undTo; rw [List.take_length]
    rw [hall]
    have F := And.intro q1 <| e0
    repeat refine st ?_
    exact aR
def revTo (l : List Int) (m : Nat) : List Int := (l.drop (l.length - m)).reverse
theorem revTo_succ {l : List Int} {m : Nat} {x : Int} (hm : m < l.length) (h : l[l.length - m - 1]? = some x) : revTo l (m + 1) = revTo l m ++ [x] := by
  unfold revTo
  rw [show l.length - (m + 1) = l.length - m - 1 by omega]
  obtain ⟨h1, rfl⟩ := List.getElem?_eq_some_iff.1 h
  rw [List.drop_eq_getElem_cons h1, List.reverse_cons]
  congr 3
  omega
theorem rTurned30_con (env : Env) (l : List Int) (hl : l.length ≤ 1000000) : Con Tryz.prog env 123 [.seq 1 (l.map intAV)] (.own 3 1 (l.reverse.map intAV)) := by
  have g0 : IntKind.i64.wrap ((l.length : Int) - 1) = (l.length : Int) - 1 - ((0 : Nat) : Int) := by rw [wrap_in (by omega) (by omega)]; omega
  refine con_of_body Tryz.func123 rfl Tryz.call123 (by rw [Tryz.ntmps123]; simp) ?_
  rw [Tryz.ntmps123, Tryz.results123]
  have F := g0
  repeat refine st ?_
  refine awp_loopH (D := Nat) (fun m vs => [(0, .seq 1 (l.map intAV)), (3, .row 5 (vs 5)), (4, I ((l.length : Int) - 1 - (m : Int)))]) (fun m _ => [(5, ⟨1, (revTo l m).map intAV, 3, true⟩)]) (fun m _ esc => m ≤ l.length ∧ esc 5 = false) (fun m => l.length - m) 0 ?_ ?_ ?_ ?_
  · exact ⟨Nat.zero_le _, rfl⟩
  · (simp only [go_sem, F])
  · have : revTo l 0 = [] := by unfold revTo; simp
    rw [this]
    (simp only [go_sem, F])
    try rfl
  rintro m ws esc ⟨hm, e0⟩
  have hrl : (revTo l m).length = m := by unfold revTo; rw [List.length_reverse, List.length_drop]; omega
  by_cases hlt : m < l.length
  · obtain ⟨x, hx⟩ : ∃ x, l[l.length - m - 1]? = some x := ⟨l[l.length - m - 1]'(by omega), List.getElem?_eq_getElem _⟩
    have q0 : (l.length : Int) - 1 - (m : Int) = ((l.length - m - 1 : Nat) : Int) := by omega
    have q1 : (0 : Int) ≤ ((l.length - m - 1 : Nat) : Int) := by omega
    have q2 : IntKind.i64.wrap (((l.length - m - 1 : Nat) : Int) - 1) = (l.length : Int) - 1 - ((m + 1 : Nat) : Int) := by rw [wrap_in (by omega) (by omega)]; omega
    have q3 : ((l.length - m - 1 : Nat) : Int) < (l.length : Int) := by omega
    have hf : Fits ((revTo l m).length + 1) 8 := ⟨by omega, by omega⟩
    have hn := revTo_succ hlt hx
    rw [q0]
    have F := And.intro hx <| And.intro q1 <| And.intro q2 <| And.intro q3 <| And.intro hf <| e0
    repeat refine st ?_
    refine ⟨m + 1, ⟨hlt, by simp only [go_sem, e0]⟩, ?_, ?_, by omega⟩
    · (simp only [go_sem, F])
    · have F := hn
      (simp only [go_sem, List.map_append, F])
  · obtain rfl : m = l.length := by omega
    have q1 : ¬ (0 : Int) ≤ (l.length : Int) - 1 - (l.length : Int) := by omega
    have hall : revTo l l.length = l.reverse := by unfold revTo; simp
    rw [hall]
    have F := And.intro q1 <| e0
    repeat refine st ?_
    exact aR
theorem rLeave30_con (env : Env) (c : ChD) (h : Full c) (act : List Int) (hl : act.length ≤ 1000000) (hz : ∀ x ∈ act, 0 ≤ x) (k : Nat) (t : TrD) (ht : c.trans[k]? = some t) : Con Tryz.prog env 70 [.agg (chAV c), .seq 1 (act.map intAV), .agg (trAV t)] (.own 3 1 ((leaveR c act t).map intAV)) := by
  have f1 := rDomain30_con env c h.toRight t (h.src ht).1
  have f2 := rUnder30_con env c h.toRight act hl hz (domE c t.src t.target)
  have hul : (undR c act (domE c t.src t.target)).length ≤ 32 := Nat.le_trans (List.length_filter_le ..) (by rw [zL_len]; exact sortL_few h.toRight act)
  have f3 := rTurned30_con env (undR c act (domE c t.src t.target)) (by omega)
  unfold leaveR
  unfold trAV at f1
  unfold chAV at f1 f2
  by_cases h0 : t.target < 0
  · rw [if_pos h0]
    refine con_of_body_w Tryz.func70 rfl Tryz.call70 (by rw [Tryz.ntmps70]; simp) ?_
    rw [Tryz.ntmps70, Tryz.results70]
    have F := And.intro trAV.eq_1 <| And.intro chAV.eq_1 <| h0
    repeat (first | refine st ?_ | refine cC f1 ?_ | refine cC f2 ?_ | refine cC f3 ?_)
    (refine awp_ret ?_; refine ⟨_, (by show (resRd _ _ _).run _ = some _; simp only [go_sem, F]; rfl), ?_⟩)
    exact RStr.own_nil _ _ (by decide)
  · rw [if_neg h0]
    refine con_of_body Tryz.func70 rfl Tryz.call70 (by rw [Tryz.ntmps70]; simp) ?_
    rw [Tryz.ntmps70, Tryz.results70]
    have F := And.intro trAV.eq_1 <| And.intro chAV.eq_1 <| h0
    repeat (first | refine st ?_ | refine cC f1 ?_ | refine cC f2 ?_ | refine cC f3 ?_)
    exact aR
end Go.Proofs.YtlmekdfleciejaaGreatDoor
set_option linter.unusedSimpArgs false
namespace Go.Proofs.YtlmekdfleciejaaGreatDoor
open Go.RowKit
set_option maxRecDepth 100000
set_option maxHeartbeats 16000000
def idxZ : List Int → Int → Nat → Option Nat
  | [], _, _ => none
  | x :: l, k, n => if k = x then some n else idxZ l k (n + 1)
theorem idxZ_none {k : Int} : ∀ {l : List Int} {n : Nat}, k ∉ l → idxZ l k n = none
  | [], _, _ => rfl
  | x :: l, n, h => by
    unfold idxZ
    rw [if_neg (fun e => h (by rw [e]; exact List.mem_cons_self ..)), idxZ_none (fun hh => h (List.mem_cons_of_mem _ hh))]
theorem idxZ_some {k : Int} : ∀ {l : List Int} {n : Nat}, k ∈ l → ∃ i, idxZ l k n = some (n + i) ∧ l[i]? = some k
  | [], n, h => by cases h
  | x :: l, n, h => by
    unfold idxZ
    by_cases e : k = x
    · exact ⟨0, by rw [if_pos e]; rfl, by rw [e]; rfl⟩
    · obtain ⟨i, h1, h2⟩ := idxZ_some (n := n + 1) ((List.mem_cons.1 h).resolve_left e)
      exact ⟨i + 1, by rw [if_neg e, h1]; congr 1; omega, by simpa using h2⟩
def haveE (l : List Int) : List (List AV) := l.map fun k => [I k, I 1]
theorem mfind_H (k : Int) : ∀ (l : List Int) (n : Nat), mfind Tryz.prog 3 (I k) (haveE l) n = some (idxZ l k n)
  | [], n => rfl
  | x :: l, n => by
    have ih := mfind_H k l (n + 1)
    unfold haveE at ih ⊢
    unfold idxZ
    by_cases e : k = x
    · have e1 : (k == x) = true := by simp [e]
      simp only [go_sem, keyCmp, eqCell, List.map_cons, e1, if_pos e]
    · have e1 : (k == x) = false := by simpa using e
      simp only [go_sem, keyCmp, eqCell, List.map_cons, e1, if_neg e, ih]
theorem upAdd_con (env : Env) (o : List Int) (i : Int) (ho : o.length ≤ 4000) (te : TypeId) : ConI Tryz.prog env 199 [1000, 1001] (fun k => k == 1001) (fun vs => [I i, .loc 1000 (vs 1000) 0 0]) (fun vs => [(1000, ⟨1, [[.row 1001 (vs 1001)]], te, false⟩), (1001, ⟨1, o.map intAV, 3, true⟩)]) (fun vs => [(1000, ⟨1, [[.row 1001 (vs 1001)]], te, false⟩), (1001, ⟨1, (addU o i).map intAV, 3, true⟩)]) (fun _ => .lit (.tuple #[])) := by
  have f0 := (containsZ_con env o i (by omega)).lend rfl
  unfold addU
  cases hc : o.contains i with
  | true =>
    rw [hc] at f0
    simp only [if_true]
    refine ⟨Tryz.call199, _, _, Tryz.func199, rfl, (by intro _; rw [Tryz.ntmps199]; simp), ?_⟩
    intro vs esc hesc
    rw [Tryz.ntmps199, Tryz.results199]
    have e0 := hesc 1000 (by simp)
    have e1 := hesc 1001 (by simp)
    have F := And.intro e0 <| e1
    repeat refine st ?_
    refine oL rfl (f0) (by simp only [go_sem, F]; exact iR) (by simp only [go_sem, F]; exact ⟨rfl, rfl⟩) ?_
    repeat refine st ?_
    (refine retI_end ?_ ?_ <;> simp only [go_sem, F, implies_true, and_self, imp_self, false_implies, AV.tuple.injEq, exists_eq_left', ne_eq])
  | false =>
    rw [hc] at f0
    have hf : Fits (o.length + 1) 8 := fits_small (by omega) (by omega)
    simp only [Bool.false_eq_true, if_false, List.map_append]
    refine ⟨Tryz.call199, _, _, Tryz.func199, rfl, (by intro _; rw [Tryz.ntmps199]; simp), ?_⟩
    intro vs esc hesc
    rw [Tryz.ntmps199, Tryz.results199]
    have e0 := hesc 1000 (by simp)
    have e1 := hesc 1001 (by simp)
    have F := And.intro e0 <| And.intro e1 <| hf
    repeat refine st ?_
    refine oL rfl (f0) (by simp only [go_sem, F]; exact iR) (by simp only [go_sem, F]; exact ⟨rfl, rfl⟩) ?_
    repeat refine st ?_
    (refine retI_end ?_ ?_ <;> simp only [go_sem, F, implies_true, and_self, imp_self, false_implies, AV.tuple.injEq, exists_eq_left', ne_eq])
theorem few_of {c : ChD} {a : List Int} (hn : a.Nodup) (hz : ∀ x ∈ a, inZ c x = true) : a.length ≤ c.states.length := by
  have := miss_add (c := c) (l := []) hn fun k hk => ⟨by simp, hz k hk⟩
  have := miss_le c []
  omega
theorem upTo_next {c : ChD} {d : Int} {o U : List Int} {m : Nat} {k : Int} (h : U[m]? = some k) : upTo c d o U (m + 1) = if 0 ≤ k ∧ aboveB c d k = true then addU (upTo c d o U m) k else upTo c d o U m := foldl_next _ _ h
theorem upsTo_next {c : ChD} {d : Int} {l : List Int} {j : Nat} {k : Int} (h : l[j]? = some k) : upsTo c d l (j + 1) = upTo c d (addU (upsTo c d l j) k) (upL c k) (upL c k).length := foldl_next _ _ h
theorem upsTo_few {c : ChD} (hc : Right c) {d : Int} {l : List Int} (hz : ∀ x ∈ l, inZ c x = true) {j : Nat} (hj : j ≤ l.length) : (upsTo c d l j).Nodup ∧ (∀ x ∈ upsTo c d l j, inZ c x = true) ∧ (upsTo c d l j).length ≤ 32 := by
  obtain ⟨h1, h2⟩ := upsTo_of (c := c) (d := d) (l := l) j hj
  have h3 : ∀ x ∈ upsTo c d l j, inZ c x = true := fun x hx => by
    rcases (h2 x).1 hx with h | ⟨i, h, q1, q2, _⟩
    · exact hz x (List.mem_of_mem_take h)
    · exact (above_in hc q1 q2).1
  exact ⟨h1, h3, Nat.le_trans (few_of h1 h3) hc.few⟩
theorem upTo_few {c : ChD} (hc : Right c) {d i : Int} {o : List Int} (hn : o.Nodup) (hz : ∀ x ∈ o, inZ c x = true) {m : Nat} (hm : m ≤ (upL c i).length) : (upTo c d o (upL c i) m).Nodup ∧ (∀ x ∈ upTo c d o (upL c i) m, inZ c x = true) ∧ (upTo c d o (upL c i) m).length ≤ 32 := by
  obtain ⟨h1, h2⟩ := upTo_of (c := c) (d := d) (U := upL c i) m hm hn
  have h3 : ∀ x ∈ upTo c d o (upL c i) m, inZ c x = true := fun x hx => by
    rcases (h2 x).1 hx with h | ⟨h, q2, _⟩
    · exact hz x h
    · exact (above_in hc (List.mem_of_mem_take h) q2).1
  exact ⟨h1, h3, Nat.le_trans (few_of h1 h3) hc.few⟩
theorem up_con (env : Env) (c : ChD) (hc : Right c) (l : List Int) (hl : l.length ≤ 1000000) (hz : ∀ x ∈ l, inZ c x = true) (d : Int) : Con Tryz.prog env 163 [tabAV c, .seq 1 (l.map intAV), I d] (.own 3 1 ((upsL c l d).map intAV)) := by
  have hlen := hc.few
  have f1 := tabTree_con env c
  unfold tabAV treeAV at f1
  unfold tabAV
  refine con_of_body Tryz.func163 rfl Tryz.call163 (by rw [Tryz.ntmps163]; simp) ?_
  rw [Tryz.ntmps163, Tryz.results163]
  repeat refine st0 ?_
  refine awp_nilcell 7 9000 0 0 ⟨1, [[nilS]], 35, false⟩ [nilS] 3 1 (by decide) (by decide) (Nat.succ_ne_zero 0) rfl rfl rfl (by simp only [go_sem]; exact iR) (by simp only [go_sem]; exact iR) ?_
  refine awp_loopH (D := Nat) (fun j vs => [(0, .ref 9 [tabCells c] 0 0), (2, I d), (7, .loc 7 (vs 7) 0 0), (8, .clo 199 [.loc 7 (vs 7) 0 0]), (14, .seq 1 (l.map intAV)), (15, I l.length), (16, I j)]) (fun j vs => [(7, ⟨1, [[.row 9000 (vs 9000)]], 35, false⟩), (9000, ⟨1, (upsTo c d l j).map intAV, 3, true⟩)]) (fun j _ esc => j ≤ l.length ∧ esc 7 = false ∧ esc 9000 = false) (fun j => l.length - j) 0 ?_ ?_ ?_ ?_
  · exact ⟨Nat.zero_le _, rfl, rfl⟩
  · (simp only [go_sem])
    try rfl
  · (simp only [go_sem])
    try rfl
  rintro j ws esc ⟨hj, e0, e1⟩
  by_cases hlt : j < l.length
  · obtain ⟨x, hx⟩ : ∃ x, l[j]? = some x := ⟨l[j], List.getElem?_eq_getElem hlt⟩
    have q1 := nlt hlt
    have q2 := wrap_succ hlt (by omega)
    obtain ⟨n1, n2, n3⟩ := upsTo_few hc (d := d) hz hj
    have hxz := hz x (List.mem_of_getElem? hx)
    have hn := upsTo_next (c := c) (d := d) hx
    have fa := upAdd_con env (upsTo c d l j) x (by omega) 35
    have f2 := tup_con env c hc x
    unfold treeAV at f2
    have m1 := addU_nodup n1 x
    have m2 : ∀ y ∈ addU (upsTo c d l j) x, inZ c y = true := fun y hy => (addU_mem.1 hy).elim (n2 y) fun e => by rw [e]; exact hxz
    have hfew := fun m hm => upTo_few hc (d := d) (i := x) m1 m2 (m := m) hm
    have hUl : (upL c x).length ≤ 40 := up_len 40 x
    have hUr : ∀ y ∈ upL c x, y < 0 ∨ inZ c y = true := fun y hy => by
      rcases Int.lt_or_le y 0 with h | h
      · exact .inl h
      · exact .inr (above_in hc hy h).1
    generalize addU (upsTo c d l j) x = o at *
    generalize upL c x = U at *
    have z0 : upTo c d o U 0 = o := rfl
    have F := And.intro hx <| And.intro q1 <| And.intro q2 <| And.intro e0 <| e1
    repeat refine st ?_
    refine aops_inl [(1000, 7), (1001, 9000)] (callOf_clo rfl (by simp only [go_sem, F]; exact iR)) (fa) (by decide) (by decide) (by simp only [go_sem, F] <;> rfl) (by simp only [go_sem, F, and_self] <;> trivial) (by simp only [go_sem, F, and_self] <;> trivial) (by intro o; simp only [go_sem, F, behind, and_self] <;> trivial) (by intro o; simp only [go_sem, F] <;> rfl) (by simp only [go_sem, F, behind]; exact iR) (by simp only [go_sem, F, behind]; exact iR) ?_
    repeat (first | refine st ?_ | refine cC f1 ?_ | refine cC f2 ?_)
    refine awp_loopH (D := Nat) (fun m vs => [(0, .ref 9 [tabCells c] 0 0), (2, I d), (7, .loc 7 (vs 7) 0 0), (8, .clo 199 [.loc 7 (vs 7) 0 0]), (14, .seq 1 (l.map intAV)), (15, I l.length), (16, I j), (26, .row 26 (vs 26)), (27, I U.length), (28, I m)]) (fun m vs => [(7, ⟨1, [[.row 9000 (vs 9000)]], 35, false⟩), (9000, ⟨1, (upTo c d o U m).map intAV, 3, true⟩), (26, ⟨1, U.map intAV, 3, true⟩)]) (fun m _ esc => m ≤ U.length ∧ esc 7 = false ∧ esc 9000 = false) (fun m => U.length - m) 0 ?_ ?_ ?_ ?_
    · exact ⟨Nat.zero_le _, by simp only [go_sem, e0], by simp only [go_sem, e1]⟩
    · (simp only [go_sem, F])
      try rfl
    · have F := z0
      (simp only [go_sem, F])
      try rfl
    try clear e0 e1
    rintro m vs es ⟨hm, e0, e1⟩
    obtain ⟨k1, k2, k3⟩ := hfew m hm
    by_cases hml : m < U.length
    · obtain ⟨y, hy⟩ : ∃ y, U[m]? = some y := ⟨U[m], List.getElem?_eq_getElem hml⟩
      have p1 := nlt hml
      have p2 := wrap_succ hml (by omega)
      have hnm := upTo_next (c := c) (d := d) (o := o) hy
      have fb := upAdd_con env (upTo c d o U m) y (by omega) 35
      have f3 := tabove_con env c hc d y
      unfold treeAV at f3
      rcases hUr y (List.mem_of_getElem? hy) with h0 | hyz
      · have h1 : ¬ 0 ≤ y := by omega
        rw [if_neg (fun q => h1 q.1)] at hnm
        have F := And.intro hy <| And.intro p1 <| And.intro p2 <| And.intro h1 <| And.intro e0 <| e1
        repeat (first | refine st ?_ | refine cC f1 ?_ | refine cC f3 ?_)
        refine ⟨m + 1, ⟨hml, by simp only [go_sem, e0], by simp only [go_sem, e1]⟩, ?_, ?_, by omega⟩
        · (simp only [go_sem, F])
        · have F := hnm
          (simp only [go_sem, F])
      · have h1 := (inZ_iff.1 hyz).1
        cases hab : aboveB c d y with
        | false =>
          rw [hab] at f3 hnm
          rw [if_neg (by simp)] at hnm
          have F := And.intro hy <| And.intro p1 <| And.intro p2 <| And.intro h1 <| And.intro e0 <| e1
          repeat (first | refine st ?_ | refine cC f1 ?_ | refine cC f3 ?_)
          refine ⟨m + 1, ⟨hml, by simp only [go_sem, e0], by simp only [go_sem, e1]⟩, ?_, ?_, by omega⟩
          · (simp only [go_sem, F])
          · have F := hnm
            (simp only [go_sem, F])
        | true =>
          rw [hab] at f3 hnm
          rw [if_pos ⟨h1, rfl⟩] at hnm
          generalize upTo c d o U m = a at *
          have F := And.intro hy <| And.intro p1 <| And.intro p2 <| And.intro h1 <| And.intro e0 <| e1
          repeat (first | refine st ?_ | refine cC f1 ?_ | refine cC f3 ?_)
          refine aops_inl [(1000, 7), (1001, 9000)] (callOf_clo rfl (by simp only [go_sem, F]; exact iR)) (fb) (by decide) (by decide) (by simp only [go_sem, F] <;> rfl) (by simp only [go_sem, F, and_self] <;> trivial) (by simp only [go_sem, F, and_self] <;> trivial) (by intro o; simp only [go_sem, F, behind, and_self] <;> trivial) (by intro o; simp only [go_sem, F] <;> rfl) (by simp only [go_sem, F, behind]; exact iR) (by simp only [go_sem, F, behind]; exact iR) ?_
          repeat refine st ?_
          refine ⟨m + 1, ⟨hml, by simp only [go_sem, e0], by simp only [go_sem, e1]⟩, ?_, ?_, by omega⟩
          · (simp only [go_sem, F])
          · have F := hnm
            (simp only [go_sem, F])
    · obtain rfl : m = U.length := by omega
      have p1 : ¬ (U.length : Int) < (U.length : Int) := by omega
      have F := And.intro p1 <| And.intro q2 <| And.intro e0 <| e1
      repeat refine st ?_
      refine ⟨j + 1, ⟨hlt, by simp only [go_sem, e0], by simp only [go_sem, e1]⟩, ?_, ?_, by omega⟩
      · (simp only [go_sem, F])
      · have F := hn
        (simp only [go_sem, F])
  · obtain rfl : j = l.length := by omega
    have q1 : ¬ (l.length : Int) < (l.length : Int) := by omega
    show awp _ _ _ _ _ _
    have hall : upsTo c d l l.length = upsL c l d := rfl
    rw [hall]
    have F := And.intro q1 <| And.intro e0 <| e1
    repeat refine st ?_
    exact aR
end Go.Proofs.YtlmekdfleciejaaGreatDoor
