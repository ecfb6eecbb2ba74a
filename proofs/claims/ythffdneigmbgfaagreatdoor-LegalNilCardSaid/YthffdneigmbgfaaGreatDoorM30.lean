/- A chart that came in, opened. -/
import Derived.Test.YthffdneigmbgfaaGreatDoorM29
import Derived.Test.YthffdneigmbgfaaGreatDoorM7
import Derived.Test.YthffdneigmbgfaaGreatDoorM5
import Derived.Test.YthffdneigmbgfaaGreatDoorM14
import Derived.Test.YthffdneigmbgfaaGreatDoorM19
set_option linter.unusedSimpArgs false
namespace Go.Proofs.YthffdneigmbgfaaGreatDoor
open Go.RowKit
set_option maxRecDepth 100000
set_option maxHeartbeats 8000000
def sumTo (c : ChD) (i : Int) (j : Nat) : Nat := (atL c i (-1)).length + ((List.range j).map fun e : Nat => (atL c i e).length).sum
theorem sumTo_succ (c : ChD) (i : Int) (j : Nat) : sumTo c i (j + 1) = sumTo c i j + (atL c i j).length := by
  unfold sumTo
  rw [List.range_succ, List.map_append, List.sum_append]
  simp [Nat.add_assoc]
theorem sumTo_mono (c : ChD) (i : Int) {j : Nat} : ∀ {m : Nat}, j ≤ m → sumTo c i j ≤ sumTo c i m
  | 0, h => by
    obtain rfl : j = 0 := by omega
    exact Nat.le_refl _
  | m + 1, h => by
    by_cases e : j = m + 1
    · subst e; exact Nat.le_refl _
    · have := sumTo_mono c i (show j ≤ m by omega)
      rw [sumTo_succ]
      omega
theorem ofTo_succ {c : ChD} (i : Int) {j : Nat} {t : TrD} (ht : c.trans[j]? = some t) : ofTo c i (j + 1) = ofTo c i j + if t.src = i then 1 else 0 := by
  unfold ofTo
  rw [List.take_add_one, ht, List.filter_append, List.length_append]
  congr 1
  by_cases h : t.src = i <;> simp [h]
theorem ofTo_le (c : ChD) (i : Int) (j : Nat) : ofTo c i j ≤ c.trans.length := by
  unfold ofTo
  exact Nat.le_trans (List.length_filter_le ..) (by rw [List.length_take]; omega)
theorem lawTableTrans_con (env : Env) (a1 a8 : Addr) (he : ChEnv env a1 a8) (hT : ∀ W, env.inv W → TabAt W) (c : ChD) (hcf : few_ch c) (i : Int) (s : List UInt8) : Con Tryz.prog env 3 [.agg (chAV c), I i, Sg s] (B true) := by
  have fa := awake28_con env a1 a8 he hT
  have fr := rests28_con env c
  cases hg : goodB c with
  | false =>
    rw [hg] at fr
    have fm := made28_none env c hg
    refine con_of_body Tryz.func3 rfl Tryz.call3 (by rw [Tryz.ntmps3]; simp) ?_
    rw [Tryz.ntmps3, Tryz.results3]
    have F := chAV.eq_1
    repeat (first | refine st ?_ | refine cC fm ?_ | refine cC fr ?_ | refine cC fa ?_)
    exact aR
  | true =>
    have h := good_full hg
    have htr := h.ftr
    have fm := made28_con env a1 a8 he hT c hcf hg
    have f1 := tabAuto_con env c (by omega) i
    have f2 := rAt_con env c (by omega) i []
    rw [refAt_auto] at f2
    have f3 := sameInts_con env (atL c i (-1)) (atL c i (-1)) (by have := atL_len c i (-1); omega)
    rw [decide_eq_true rfl] at f3
    have f4 : Con Tryz.prog env 20 [tabAV c, I i, I (-1)] (.own 3 1 []) := tabAt_con env c (by omega) i (-1)
    have f5 := tabEvents_con env c (by omega)
    have f6 := tabAt_con env c (by omega) i ((evL c).length : Nat)
    rw [show tatL c i ((evL c).length : Nat) = [] by unfold tatL; rw [if_neg (by omega)]; exact at_past i _ (Int.le_refl _)] at f6
    have f7 := tabEvent_con env c (by omega) s
    have f8 := tabAt_con env c (by omega) i (evI c s)
    have f9 := rAt_con env c (by omega) i s
    have hel := evL_len c
    have hsum := sum_all c i
    change sumTo c i (evL c).length = _ at hsum
    have hl1 := atL_len c i (-1)
    unfold tabAV at fm f1 f4 f5 f6 f7 f8
    have z0 : sumTo c i 0 = (atL c i (-1)).length := by simp [sumTo]
    have z1 : ((sumTo c i (evL c).length : Nat) : Int) = ((ofTo c i c.trans.length : Nat) : Int) - ((ofTo c i 0 : Nat) : Int) := by rw [hsum]; simp [ofTo]
    have hofl := ofTo_le c i c.trans.length
    have hrg : -1 ≤ evI c s := (evI_range c s).1
    by_cases hs : s = []
    · subst hs
      refine con_of_body Tryz.func3 rfl Tryz.call3 (by rw [Tryz.ntmps3]; simp) ?_
      rw [Tryz.ntmps3, Tryz.results3]
      have F := chAV.eq_1
      repeat (first | refine st ?_ | refine cC fm ?_ | refine cC fr ?_ | refine cC fa ?_ | refine cC f1 ?_ | refine cC f2 ?_ | refine cC f3 ?_ | refine cC f4 ?_ | refine cC f5 ?_ | refine cC f6 ?_)
      refine awp_loopH (D := Nat) (fun j vs => [(1, I i), (3, .loc 3 (vs 3) 0 0), (7, .ref 9 [tabCells c] 0 0), (8, I (sumTo c i j : Nat)), (9, I j)]) (fun _ _ => [(3, ⟨5, [chAV c], 26, false⟩)]) (fun j _ _ => j ≤ (evL c).length) (fun j => (evL c).length - j) 0 ?_ ?_ ?_ ?_
      · exact Nat.zero_le _
      · have F := z0
        (simp only [go_sem, F])
      · have F := chAV.eq_1
        (simp only [go_sem, F])
      · rintro j ws esc hj
        by_cases hlt : j < (evL c).length
        · have q1 := nlt hlt
          have q2 := wrap_succ hlt (by omega)
          have q3 : IntKind.i64.wrap ((sumTo c i j : Nat) + ((atL c i j).length : Int)) = ((sumTo c i (j + 1) : Nat) : Int) := by
            have h1 := sumTo_succ c i j
            have h2 := sumTo_mono c i (show j + 1 ≤ (evL c).length by omega)
            rw [wrap_in (by omega) (by omega)]
            omega
          have f11 := tabAt_con env c (by omega) i j
          rw [show tatL c i j = atL c i j by unfold tatL; rw [if_neg (by omega)]] at f11
          unfold tabAV at f11
          have F := And.intro chAV.eq_1 <| And.intro q1 <| And.intro q2 <| q3
          repeat (first | refine st ?_ | refine cC f5 ?_ | refine cC f11 ?_)
          refine ⟨j + 1, hlt, ?_, ?_, by omega⟩
          · (simp only [go_sem, F])
          · (simp only [go_sem, F])
        · obtain rfl : j = (evL c).length := by omega
          have q1 : ¬ ((evL c).length : Int) < ((evL c).length : Int) := by omega
          have F := And.intro chAV.eq_1 <| q1
          repeat (first | refine st ?_ | refine cC f5 ?_)
          refine awp_loopH (D := Nat) (fun k vs => [(1, I i), (3, .loc 3 (vs 3) 0 0), (8, I ((ofTo c i c.trans.length : Nat) - (ofTo c i k : Nat))), (10, I k)]) (fun _ _ => [(3, ⟨5, [chAV c], 26, false⟩)]) (fun k _ _ => k ≤ c.trans.length) (fun k => c.trans.length - k) 0 ?_ ?_ ?_ ?_
          · exact Nat.zero_le _
          · have F := z1
            (simp only [go_sem, F])
          · have F := chAV.eq_1
            (simp only [go_sem, F])
          · rintro k ws esc hk
            by_cases hlt : k < c.trans.length
            · obtain ⟨t, ht⟩ : ∃ t, c.trans[k]? = some t := ⟨c.trans[k], List.getElem?_eq_getElem hlt⟩
              have q1 := nlt hlt
              have q2 := wrap_succ hlt (by omega)
              have hs := ofTo_succ i ht
              have h3 := ofTo_le c i k
              by_cases hti : t.src = i
              · rw [if_pos hti] at hs
                have b1 : (t.src == i) = true := by simpa using hti
                have q3 : IntKind.i64.wrap (((ofTo c i c.trans.length : Nat) : Int) - (ofTo c i k : Nat) - 1) = ((ofTo c i c.trans.length : Nat) : Int) - (ofTo c i (k + 1) : Nat) := by
                  have h4 := ofTo_le c i c.trans.length
                  rw [wrap_in (by omega) (by omega)]
                  omega
                have F := And.intro chAV.eq_1 <| And.intro trAV.eq_1 <| And.intro q1 <| And.intro q2 <| And.intro q3 <| And.intro ht <| b1
                repeat refine st ?_
                refine ⟨k + 1, hlt, ?_, ?_, by omega⟩
                · (simp only [go_sem, F])
                · (simp only [go_sem, F])
              · rw [if_neg hti, Nat.add_zero] at hs
                have b1 : (t.src == i) = false := by simpa using hti
                have F := And.intro chAV.eq_1 <| And.intro trAV.eq_1 <| And.intro q1 <| And.intro q2 <| And.intro ht <| b1
                repeat refine st ?_
                refine ⟨k + 1, hlt, ?_, ?_, by omega⟩
                · have F := And.intro hs <| q2
                  (simp only [go_sem, F])
                · have F := chAV.eq_1
                  (simp only [go_sem, F])
            · obtain rfl : k = c.trans.length := by omega
              have q1 : ¬ (c.trans.length : Int) < (c.trans.length : Int) := by omega
              have q2 : (((ofTo c i c.trans.length : Nat) : Int) - ((ofTo c i c.trans.length : Nat) : Int) == 0) = true := by simp
              have F := And.intro chAV.eq_1 <| And.intro q1 <| q2
              repeat (first | refine st ?_ | refine cC fa ?_)
              exact aR
    · have hb : (s == []) = false := by simpa using hs
      have f10 := sameInts_con env (tatL c i (evI c s)) (refAtTo c i s c.trans.length) (by
        unfold tatL
        split
        · simp
        · have := atL_len c i (evI c s); omega)
      rw [decide_eq_true (refAt_name c i hs).symm] at f10
      refine con_of_body Tryz.func3 rfl Tryz.call3 (by rw [Tryz.ntmps3]; simp) ?_
      rw [Tryz.ntmps3, Tryz.results3]
      have F := And.intro chAV.eq_1 <| hb
      repeat (first | refine st ?_ | refine cC fm ?_ | refine cC fr ?_ | refine cC fa ?_ | refine cC f1 ?_ | refine cC f2 ?_ | refine cC f3 ?_ | refine cC f4 ?_ | refine cC f5 ?_ | refine cC f6 ?_ | refine cC f7 ?_ | refine cC f8 ?_ | refine cC f9 ?_ | refine cC f10 ?_)
      refine awp_loopH (D := Nat) (fun j vs => [(1, I i), (3, .loc 3 (vs 3) 0 0), (7, .ref 9 [tabCells c] 0 0), (8, I (sumTo c i j : Nat)), (9, I j)]) (fun _ _ => [(3, ⟨5, [chAV c], 26, false⟩)]) (fun j _ _ => j ≤ (evL c).length) (fun j => (evL c).length - j) 0 ?_ ?_ ?_ ?_
      · exact Nat.zero_le _
      · have F := z0
        (simp only [go_sem, F])
      · have F := chAV.eq_1
        (simp only [go_sem, F])
      · rintro j ws esc hj
        by_cases hlt : j < (evL c).length
        · have q1 := nlt hlt
          have q2 := wrap_succ hlt (by omega)
          have q3 : IntKind.i64.wrap ((sumTo c i j : Nat) + ((atL c i j).length : Int)) = ((sumTo c i (j + 1) : Nat) : Int) := by
            have h1 := sumTo_succ c i j
            have h2 := sumTo_mono c i (show j + 1 ≤ (evL c).length by omega)
            rw [wrap_in (by omega) (by omega)]
            omega
          have f11 := tabAt_con env c (by omega) i j
          rw [show tatL c i j = atL c i j by unfold tatL; rw [if_neg (by omega)]] at f11
          unfold tabAV at f11
          have F := And.intro chAV.eq_1 <| And.intro q1 <| And.intro q2 <| q3
          repeat (first | refine st ?_ | refine cC f5 ?_ | refine cC f11 ?_)
          refine ⟨j + 1, hlt, ?_, ?_, by omega⟩
          · (simp only [go_sem, F])
          · (simp only [go_sem, F])
        · obtain rfl : j = (evL c).length := by omega
          have q1 : ¬ ((evL c).length : Int) < ((evL c).length : Int) := by omega
          have F := And.intro chAV.eq_1 <| q1
          repeat (first | refine st ?_ | refine cC f5 ?_)
          refine awp_loopH (D := Nat) (fun k vs => [(1, I i), (3, .loc 3 (vs 3) 0 0), (8, I ((ofTo c i c.trans.length : Nat) - (ofTo c i k : Nat))), (10, I k)]) (fun _ _ => [(3, ⟨5, [chAV c], 26, false⟩)]) (fun k _ _ => k ≤ c.trans.length) (fun k => c.trans.length - k) 0 ?_ ?_ ?_ ?_
          · exact Nat.zero_le _
          · have F := z1
            (simp only [go_sem, F])
          · have F := chAV.eq_1
            (simp only [go_sem, F])
          · rintro k ws esc hk
            by_cases hlt : k < c.trans.length
            · obtain ⟨t, ht⟩ : ∃ t, c.trans[k]? = some t := ⟨c.trans[k], List.getElem?_eq_getElem hlt⟩
              have q1 := nlt hlt
              have q2 := wrap_succ hlt (by omega)
              have hs := ofTo_succ i ht
              have h3 := ofTo_le c i k
              by_cases hti : t.src = i
              · rw [if_pos hti] at hs
                have b1 : (t.src == i) = true := by simpa using hti
                have q3 : IntKind.i64.wrap (((ofTo c i c.trans.length : Nat) : Int) - (ofTo c i k : Nat) - 1) = ((ofTo c i c.trans.length : Nat) : Int) - (ofTo c i (k + 1) : Nat) := by
                  have h4 := ofTo_le c i c.trans.length
                  rw [wrap_in (by omega) (by omega)]
                  omega
                have F := And.intro chAV.eq_1 <| And.intro trAV.eq_1 <| And.intro q1 <| And.intro q2 <| And.intro q3 <| And.intro ht <| b1
                repeat refine st ?_
                refine ⟨k + 1, hlt, ?_, ?_, by omega⟩
                · (simp only [go_sem, F])
                · (simp only [go_sem, F])
              · rw [if_neg hti, Nat.add_zero] at hs
                have b1 : (t.src == i) = false := by simpa using hti
                have F := And.intro chAV.eq_1 <| And.intro trAV.eq_1 <| And.intro q1 <| And.intro q2 <| And.intro ht <| b1
                repeat refine st ?_
                refine ⟨k + 1, hlt, ?_, ?_, by omega⟩
                · have F := And.intro hs <| q2
                  (simp only [go_sem, F])
                · have F := chAV.eq_1
                  (simp only [go_sem, F])
            · obtain rfl : k = c.trans.length := by omega
              have q1 : ¬ (c.trans.length : Int) < (c.trans.length : Int) := by omega
              have q2 : (((ofTo c i c.trans.length : Nat) : Int) - ((ofTo c i c.trans.length : Nat) : Int) == 0) = true := by simp
              have F := And.intro chAV.eq_1 <| And.intro q1 <| q2
              repeat (first | refine st ?_ | refine cC fa ?_)
              exact aR
end Go.Proofs.YthffdneigmbgfaaGreatDoor
namespace Go.Proofs.YthffdneigmbgfaaGreatDoor
open Go.RowKit Go.ChangeShapes Go.WideShapes Go.Deep
section
variable {H : Type} {enc : TypeId × Value → H} {P : Program} {w : World} {base : Nat} {spare : Nat → Bool} {held : Bool}
theorem trodF {fs : Array Field} {cs : List Value} {n : Nat} {xs : List (DataW H × List MemPlace)} (hx : xs.length = fs.size) (hg : ∀ (i : Nat) (f : Field), fs[i]? = some f → DataW.trod enc P w base spare held n f.type ((cs.drop f.offset).take (P.cellsOf f.type)) = xs[i]?)
    (i : Nat) (f : Field) (hf : fs[i]? = some f) (ty off k : Nat) (h1 : f.type = ty) (h2 : f.offset = off) (h3 : P.cellsOf ty = k) : ∃ y, DataW.trod enc P w base spare held n ty ((cs.drop off).take k) = some y := by
  have h := hg i f hf
  rw [h1, h2, h3] at h
  have hi : i < fs.size := (Array.getElem?_eq_some_iff.1 hf).1
  rw [List.getElem?_eq_getElem (by omega)] at h
  exact ⟨_, h⟩
def RE {α : Type} (w : World) (en : α → List AV) (few : α → Prop) (cs : List Value) (a : α) : Prop := RVs (fun b _ => b < w.heap.size) w cs (en a) ∧ few a
theorem open_rows {α : Type} {t e : TypeId} {size fuel : Nat} {cs : List Value} {x : DataW H × List MemPlace} (en : α → List AV) (few : α → Prop) (hen : ∀ a, (en a).length = size) (ht : P.underlying t = some (.slice e)) (hC : P.cellsOf e = size) (hpos : 0 < size)
    (hR : ∀ (m : Nat) (cs : List Value) (y : DataW H × List MemPlace), DataW.trod enc P w base spare held m e cs = some y → ∃ a, RE w en few cs a)
    (h : DataW.trod enc P w base spare held fuel t cs = some x) : ∃ (v : Value) (l : List α), cs = [v] ∧ (v.oneCell' = true ∧ RV (fun b _ => b < w.heap.size) w v (.seq size (l.map en))) ∧ l.length ≤ maxLen ∧ ∀ a ∈ l, few a := by
  obtain ⟨v, l, e1, hl⟩ := open_list (R := RE w en few) ht hC hpos hR h
  have hrv := list_rv en hen hl fun cs a _ hr j u c hu hc => hr.1.at_.2 j u c hu hc
  obtain ⟨A, c, xs, rfl, _, h2, _, hrow⟩ := hl
  refine ⟨_, l, e1, ⟨rfl, hrv⟩, h2, fun a ha => ?_⟩
  obtain ⟨i, hi, rfl⟩ := List.getElem_of_mem ha
  exact (hrow.2 i hi).2
theorem len_2 {l : List Value} (h : l.length = 2) : ∃ a b, l = [a, b] := by
  match l, h with
  | [a, b], _ => exact ⟨a, b, rfl⟩
theorem len_4 {l : List Value} (h : l.length = 4) : ∃ a b c d, l = [a, b, c, d] := by
  match l, h with
  | [a, b, c, d], _ => exact ⟨a, b, c, d, rfl⟩
theorem len_5 {l : List Value} (h : l.length = 5) : ∃ a b c d e, l = [a, b, c, d, e] := by
  match l, h with
  | [a, b, c, d, e], _ => exact ⟨a, b, c, d, e, rfl⟩
theorem len_6 {l : List Value} (h : l.length = 6) : ∃ a b c d e f, l = [a, b, c, d, e, f] := by
  match l, h with
  | [a, b, c, d, e, f], _ => exact ⟨a, b, c, d, e, f, rfl⟩
end
theorem c_int : Tryz.prog.cellsOf 3 = 1 := by kernel_rfl
theorem c_string : Tryz.prog.cellsOf 9 = 1 := by kernel_rfl
theorem c_ops : Tryz.prog.cellsOf 39 = 1 := by kernel_rfl
theorem c_acts : Tryz.prog.cellsOf 40 = 1 := by kernel_rfl
theorem c_sts : Tryz.prog.cellsOf 23 = 1 := by kernel_rfl
theorem c_trs : Tryz.prog.cellsOf 24 = 1 := by kernel_rfl
theorem c_vars : Tryz.prog.cellsOf 22 = 1 := by kernel_rfl
theorem c_op : Tryz.prog.cellsOf 139 = 2 := by kernel_rfl
theorem c_act : Tryz.prog.cellsOf 141 = 4 := by kernel_rfl
theorem c_st : Tryz.prog.cellsOf 47 = 6 := by kernel_rfl
theorem c_tr : Tryz.prog.cellsOf 42 = 5 := by kernel_rfl
theorem c_var : Tryz.prog.cellsOf 105 = 2 := by kernel_rfl
theorem c_ch : Tryz.prog.cellsOf 26 = 5 := by kernel_rfl
section
variable {H : Type} {enc : TypeId × Value → H} {w : World} {base : Nat} {spare : Nat → Bool} {held : Bool}
set_option maxRecDepth 100000 in
theorem open_op (m : Nat) (cs : List Value) (y : DataW H × List MemPlace) (h : DataW.trod enc Tryz.prog w base spare held m 139 cs = some y) : ∃ a : OpD, RE w opAV few_op cs a := by
  obtain ⟨xs, n, _, _, hl, hxl, hg⟩ := DataW.trod_struct Tryz.underlying139 h
  rw [c_op] at hl
  obtain ⟨c0, c1, rfl⟩ := len_2 hl
  obtain ⟨y0, h0⟩ := trodF hxl hg 0 _ rfl 3 0 1 rfl rfl c_int
  obtain ⟨x0, e0, -, -⟩ := DataW.trod_int Tryz.underlying3 (show DataW.trod enc Tryz.prog w base spare held n 3 [c0] = some y0 from h0)
  cases e0
  obtain ⟨y1, h1⟩ := trodF hxl hg 1 _ rfl 3 1 1 rfl rfl c_int
  obtain ⟨x1, e1, -, -⟩ := DataW.trod_int Tryz.underlying3 (show DataW.trod enc Tryz.prog w base spare held n 3 [c1] = some y1 from h1)
  cases e1
  exact ⟨⟨x0, x1⟩, ⟨⟨rfl, .lit _⟩, ⟨rfl, .lit _⟩, trivial⟩, trivial⟩
set_option maxRecDepth 100000 in
theorem open_act (m : Nat) (cs : List Value) (y : DataW H × List MemPlace) (h : DataW.trod enc Tryz.prog w base spare held m 141 cs = some y) : ∃ a : ActD, RE w actAV few_act cs a := by
  obtain ⟨xs, n, _, _, hl, hxl, hg⟩ := DataW.trod_struct Tryz.underlying141 h
  rw [c_act] at hl
  obtain ⟨c0, c1, c2, c3, rfl⟩ := len_4 hl
  obtain ⟨y0, h0⟩ := trodF hxl hg 0 _ rfl 3 0 1 rfl rfl c_int
  obtain ⟨x0, e0, -, -⟩ := DataW.trod_int Tryz.underlying3 (show DataW.trod enc Tryz.prog w base spare held n 3 [c0] = some y0 from h0)
  cases e0
  obtain ⟨y1, h1⟩ := trodF hxl hg 1 _ rfl 3 1 1 rfl rfl c_int
  obtain ⟨x1, e1, -, -⟩ := DataW.trod_int Tryz.underlying3 (show DataW.trod enc Tryz.prog w base spare held n 3 [c1] = some y1 from h1)
  cases e1
  obtain ⟨y2, h2⟩ := trodF hxl hg 2 _ rfl 9 2 1 rfl rfl c_string
  obtain ⟨x2, e2, -, s2⟩ := DataW.trod_string Tryz.underlying9 (show DataW.trod enc Tryz.prog w base spare held n 9 [c2] = some y2 from h2)
  cases e2
  obtain ⟨⟨t2⟩⟩ := x2
  obtain ⟨y3, h3⟩ := trodF hxl hg 3 _ rfl 39 3 1 rfl rfl c_ops
  obtain ⟨x3, l3, e3, r3, n3, p3⟩ := open_rows (size := 2) opAV few_op (fun _ => rfl) Tryz.underlying39 c_op (by decide) open_op (show DataW.trod enc Tryz.prog w base spare held n 39 [c3] = some y3 from h3)
  cases e3
  exact ⟨⟨x0, x1, t2, l3⟩, ⟨⟨rfl, .lit _⟩, ⟨rfl, .lit _⟩, ⟨rfl, .lit _⟩, r3, trivial⟩, (by simpa [ByteArray.size] using s2), ⟨n3, p3⟩⟩
set_option maxRecDepth 100000 in
theorem open_st (m : Nat) (cs : List Value) (y : DataW H × List MemPlace) (h : DataW.trod enc Tryz.prog w base spare held m 47 cs = some y) : ∃ a : StD, RE w stAV few_st cs a := by
  obtain ⟨xs, n, _, _, hl, hxl, hg⟩ := DataW.trod_struct Tryz.underlying47 h
  rw [c_st] at hl
  obtain ⟨c0, c1, c2, c3, c4, c5, rfl⟩ := len_6 hl
  obtain ⟨y0, h0⟩ := trodF hxl hg 0 _ rfl 9 0 1 rfl rfl c_string
  obtain ⟨x0, e0, -, s0⟩ := DataW.trod_string Tryz.underlying9 (show DataW.trod enc Tryz.prog w base spare held n 9 [c0] = some y0 from h0)
  cases e0
  obtain ⟨⟨t0⟩⟩ := x0
  obtain ⟨y1, h1⟩ := trodF hxl hg 1 _ rfl 3 1 1 rfl rfl c_int
  obtain ⟨x1, e1, -, -⟩ := DataW.trod_int Tryz.underlying3 (show DataW.trod enc Tryz.prog w base spare held n 3 [c1] = some y1 from h1)
  cases e1
  obtain ⟨y2, h2⟩ := trodF hxl hg 2 _ rfl 3 2 1 rfl rfl c_int
  obtain ⟨x2, e2, -, -⟩ := DataW.trod_int Tryz.underlying3 (show DataW.trod enc Tryz.prog w base spare held n 3 [c2] = some y2 from h2)
  cases e2
  obtain ⟨y3, h3⟩ := trodF hxl hg 3 _ rfl 3 3 1 rfl rfl c_int
  obtain ⟨x3, e3, -, -⟩ := DataW.trod_int Tryz.underlying3 (show DataW.trod enc Tryz.prog w base spare held n 3 [c3] = some y3 from h3)
  cases e3
  obtain ⟨y4, h4⟩ := trodF hxl hg 4 _ rfl 40 4 1 rfl rfl c_acts
  obtain ⟨x4, l4, e4, r4, n4, p4⟩ := open_rows (size := 4) actAV few_act (fun _ => rfl) Tryz.underlying40 c_act (by decide) open_act (show DataW.trod enc Tryz.prog w base spare held n 40 [c4] = some y4 from h4)
  cases e4
  obtain ⟨y5, h5⟩ := trodF hxl hg 5 _ rfl 40 5 1 rfl rfl c_acts
  obtain ⟨x5, l5, e5, r5, n5, p5⟩ := open_rows (size := 4) actAV few_act (fun _ => rfl) Tryz.underlying40 c_act (by decide) open_act (show DataW.trod enc Tryz.prog w base spare held n 40 [c5] = some y5 from h5)
  cases e5
  exact ⟨⟨t0, x1, x2, x3, l4, l5⟩, ⟨⟨rfl, .lit _⟩, ⟨rfl, .lit _⟩, ⟨rfl, .lit _⟩, ⟨rfl, .lit _⟩, r4, r5, trivial⟩, (by simpa [ByteArray.size] using s0), ⟨n4, p4⟩, ⟨n5, p5⟩⟩
set_option maxRecDepth 100000 in
theorem open_tr (m : Nat) (cs : List Value) (y : DataW H × List MemPlace) (h : DataW.trod enc Tryz.prog w base spare held m 42 cs = some y) : ∃ a : TrD, RE w trAV few_tr cs a := by
  obtain ⟨xs, n, _, _, hl, hxl, hg⟩ := DataW.trod_struct Tryz.underlying42 h
  rw [c_tr] at hl
  obtain ⟨c0, c1, c2, c3, c4, rfl⟩ := len_5 hl
  obtain ⟨y0, h0⟩ := trodF hxl hg 0 _ rfl 3 0 1 rfl rfl c_int
  obtain ⟨x0, e0, -, -⟩ := DataW.trod_int Tryz.underlying3 (show DataW.trod enc Tryz.prog w base spare held n 3 [c0] = some y0 from h0)
  cases e0
  obtain ⟨y1, h1⟩ := trodF hxl hg 1 _ rfl 9 1 1 rfl rfl c_string
  obtain ⟨x1, e1, -, s1⟩ := DataW.trod_string Tryz.underlying9 (show DataW.trod enc Tryz.prog w base spare held n 9 [c1] = some y1 from h1)
  cases e1
  obtain ⟨⟨t1⟩⟩ := x1
  obtain ⟨y2, h2⟩ := trodF hxl hg 2 _ rfl 39 2 1 rfl rfl c_ops
  obtain ⟨x2, l2, e2, r2, n2, p2⟩ := open_rows (size := 2) opAV few_op (fun _ => rfl) Tryz.underlying39 c_op (by decide) open_op (show DataW.trod enc Tryz.prog w base spare held n 39 [c2] = some y2 from h2)
  cases e2
  obtain ⟨y3, h3⟩ := trodF hxl hg 3 _ rfl 40 3 1 rfl rfl c_acts
  obtain ⟨x3, l3, e3, r3, n3, p3⟩ := open_rows (size := 4) actAV few_act (fun _ => rfl) Tryz.underlying40 c_act (by decide) open_act (show DataW.trod enc Tryz.prog w base spare held n 40 [c3] = some y3 from h3)
  cases e3
  obtain ⟨y4, h4⟩ := trodF hxl hg 4 _ rfl 3 4 1 rfl rfl c_int
  obtain ⟨x4, e4, -, -⟩ := DataW.trod_int Tryz.underlying3 (show DataW.trod enc Tryz.prog w base spare held n 3 [c4] = some y4 from h4)
  cases e4
  exact ⟨⟨x0, t1, l2, l3, x4⟩, ⟨⟨rfl, .lit _⟩, ⟨rfl, .lit _⟩, r2, r3, ⟨rfl, .lit _⟩, trivial⟩, (by simpa [ByteArray.size] using s1), ⟨n2, p2⟩, ⟨n3, p3⟩⟩
set_option maxRecDepth 100000 in
theorem open_var (m : Nat) (cs : List Value) (y : DataW H × List MemPlace) (h : DataW.trod enc Tryz.prog w base spare held m 105 cs = some y) : ∃ a : VarD, RE w varAV few_var cs a := by
  obtain ⟨xs, n, _, _, hl, hxl, hg⟩ := DataW.trod_struct Tryz.underlying105 h
  rw [c_var] at hl
  obtain ⟨c0, c1, rfl⟩ := len_2 hl
  obtain ⟨y0, h0⟩ := trodF hxl hg 0 _ rfl 9 0 1 rfl rfl c_string
  obtain ⟨x0, e0, -, s0⟩ := DataW.trod_string Tryz.underlying9 (show DataW.trod enc Tryz.prog w base spare held n 9 [c0] = some y0 from h0)
  cases e0
  obtain ⟨⟨t0⟩⟩ := x0
  obtain ⟨y1, h1⟩ := trodF hxl hg 1 _ rfl 3 1 1 rfl rfl c_int
  obtain ⟨x1, e1, -, -⟩ := DataW.trod_int Tryz.underlying3 (show DataW.trod enc Tryz.prog w base spare held n 3 [c1] = some y1 from h1)
  cases e1
  exact ⟨⟨t0, x1⟩, ⟨⟨rfl, .lit _⟩, ⟨rfl, .lit _⟩, trivial⟩, (by simpa [few_var, ByteArray.size] using s0)⟩
set_option maxRecDepth 100000 in
theorem open_ch (m : Nat) (cs : List Value) (y : DataW H × List MemPlace) (h : DataW.trod enc Tryz.prog w base spare held m 26 cs = some y) : ∃ a : ChD, RE w chAV few_ch cs a := by
  obtain ⟨xs, n, _, _, hl, hxl, hg⟩ := DataW.trod_struct Tryz.underlying26 h
  rw [c_ch] at hl
  obtain ⟨c0, c1, c2, c3, c4, rfl⟩ := len_5 hl
  obtain ⟨y0, h0⟩ := trodF hxl hg 0 _ rfl 9 0 1 rfl rfl c_string
  obtain ⟨x0, e0, -, s0⟩ := DataW.trod_string Tryz.underlying9 (show DataW.trod enc Tryz.prog w base spare held n 9 [c0] = some y0 from h0)
  cases e0
  obtain ⟨⟨t0⟩⟩ := x0
  obtain ⟨y1, h1⟩ := trodF hxl hg 1 _ rfl 3 1 1 rfl rfl c_int
  obtain ⟨x1, e1, -, -⟩ := DataW.trod_int Tryz.underlying3 (show DataW.trod enc Tryz.prog w base spare held n 3 [c1] = some y1 from h1)
  cases e1
  obtain ⟨y2, h2⟩ := trodF hxl hg 2 _ rfl 22 2 1 rfl rfl c_vars
  obtain ⟨x2, l2, e2, r2, n2, p2⟩ := open_rows (size := 2) varAV few_var (fun _ => rfl) Tryz.underlying22 c_var (by decide) open_var (show DataW.trod enc Tryz.prog w base spare held n 22 [c2] = some y2 from h2)
  cases e2
  obtain ⟨y3, h3⟩ := trodF hxl hg 3 _ rfl 23 3 1 rfl rfl c_sts
  obtain ⟨x3, l3, e3, r3, n3, p3⟩ := open_rows (size := 6) stAV few_st (fun _ => rfl) Tryz.underlying23 c_st (by decide) open_st (show DataW.trod enc Tryz.prog w base spare held n 23 [c3] = some y3 from h3)
  cases e3
  obtain ⟨y4, h4⟩ := trodF hxl hg 4 _ rfl 24 4 1 rfl rfl c_trs
  obtain ⟨x4, l4, e4, r4, n4, p4⟩ := open_rows (size := 5) trAV few_tr (fun _ => rfl) Tryz.underlying24 c_tr (by decide) open_tr (show DataW.trod enc Tryz.prog w base spare held n 24 [c4] = some y4 from h4)
  cases e4
  exact ⟨⟨t0, x1, l2, l3, l4⟩, ⟨⟨rfl, .lit _⟩, ⟨rfl, .lit _⟩, r2, r3, r4, trivial⟩, (by simpa [ByteArray.size] using s0), ⟨n2, p2⟩, ⟨n3, p3⟩, ⟨n4, p4⟩⟩
set_option maxRecDepth 100000 in
theorem open_chart {r0 : Reach} {b0 : Nat} {v : Value} {d : DataW H} {p : List MemPlace} (hv : Value.okWide Tryz.prog w r0 b0 26 v) (h : DataW.Trod enc Tryz.prog w base spare held 26 v d p) :
    ∃ c : ChD, few_ch c ∧ RV (fun b _ => b < w.heap.size) w v (.agg (chAV c)) := by
  obtain ⟨cs, rfl, hsz⟩ := okWide_struct Tryz.underlying26 hv
  obtain ⟨l⟩ := cs
  obtain ⟨fuel, hf⟩ := h
  obtain ⟨c, h1, h2⟩ := open_ch _ _ _ hf
  exact ⟨c, h2, RVs.agg h1⟩
end
end Go.Proofs.YthffdneigmbgfaaGreatDoor
