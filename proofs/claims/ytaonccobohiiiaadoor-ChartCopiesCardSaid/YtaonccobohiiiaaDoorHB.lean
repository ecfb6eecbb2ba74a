/- Contracts of the document's saying whether charts are the same: by the walk without memory. -/
import Derived.Test.YtaonccobohiiiaaDoorH9
import Derived.Test.YtaonccobohiiiaaDoorEv
import Derived.Test.YtaonccobohiiiaaDoorSt
set_option linter.unusedSimpArgs false
namespace Go.Proofs.YtaonccobohiiiaaDoor
open Go.RowKit
set_option maxRecDepth 100000
set_option maxHeartbeats 8000000

theorem rSameActs_con (env : Env) (a b : List ActD) (hn : a.length ≤ 9223372036854775807) (hf : ∀ x ∈ a, few_act x) : Con Tryd.prog env 24 [actsAV a, actsAV b] (B (a == b)) := by
  refine con_of_body Tryd.func24 rfl Tryd.call24 (by rw [Tryd.ntmps24]; simp) ?_
  rw [Tryd.ntmps24, Tryd.results24]
  by_cases hl : a.length = b.length
  case neg =>
    have k0 := ibne hl
    rw [unlike_len hl]
    have F := And.intro k0 <| bneA
    repeat refine st ?_
    exact aR
  have k0 : ((a.length : Int) == (b.length : Int)) = true := by rw [hl]; simp
  have F := And.intro k0 <| bneA
  repeat refine st ?_
  refine awp_loopH (D := Nat) (fun i _ => [(0, actsAV a), (1, actsAV b), (5, I i)]) (fun _ _ => []) (fun i _ _ => i ≤ a.length ∧ a.take i = b.take i) (fun i => a.length - i) 0 ?_ ?_ ?_ ?_
  · exact ⟨Nat.zero_le _, rfl⟩
  · (simp only [go_sem, F])
  · (simp only [go_sem, F])
  rintro i ws esc ⟨hi, ht⟩
  by_cases hlt : i < a.length
  · obtain ⟨x, hx, hxm⟩ := some_at hlt
    obtain ⟨y, hy, hym⟩ := some_at (show i < b.length by omega)
    have k1 := nlt hlt
    have k3 := nlt (show i < b.length by omega)
    have k2 := wrap_succ hlt hn
    have hc := rSameOps_con env x.code y.code (by have := (hf x hxm).2.1; unfold maxLen at this; omega)
    have hno : (x == y) = false → (a == b) = false := fun h => unlike_at hx hy (by simpa using h)
    have hyes : (x == y) = true → a.take (i + 1) = b.take (i + 1) := fun h => take_same ht hx hy (by simpa using h)
    cases e0 : (x.kind == y.kind)
    · rw [hno (by rw [act_eq x y]; simp [e0])]
      have F := And.intro k1 <| And.intro k2 <| And.intro k3 <| And.intro hx <| And.intro hy <| And.intro actAV.eq_1 <| And.intro e0 <| bneA
      repeat (first | refine st ?_ | refine cC hc ?_)
      exact aR
    cases e1 : (x.n == y.n)
    · rw [hno (by rw [act_eq x y]; simp [e0, e1])]
      have F := And.intro k1 <| And.intro k2 <| And.intro k3 <| And.intro hx <| And.intro hy <| And.intro actAV.eq_1 <| And.intro e0 <| And.intro e1 <| bneA
      repeat (first | refine st ?_ | refine cC hc ?_)
      exact aR
    cases e2 : (x.name == y.name)
    · rw [hno (by rw [act_eq x y]; simp [e0, e1, e2])]
      have F := And.intro k1 <| And.intro k2 <| And.intro k3 <| And.intro hx <| And.intro hy <| And.intro actAV.eq_1 <| And.intro e0 <| And.intro e1 <| And.intro e2 <| bneA
      repeat (first | refine st ?_ | refine cC hc ?_)
      exact aR
    cases e3 : (x.code == y.code)
    · rw [hno (by rw [act_eq x y]; simp [e0, e1, e2, e3])]
      have F := And.intro k1 <| And.intro k2 <| And.intro k3 <| And.intro hx <| And.intro hy <| And.intro actAV.eq_1 <| And.intro e0 <| And.intro e1 <| And.intro e2 <| And.intro e3 <| bneA
      repeat (first | refine st ?_ | refine cC hc ?_)
      exact aR
    have F := And.intro k1 <| And.intro k2 <| And.intro k3 <| And.intro hx <| And.intro hy <| And.intro actAV.eq_1 <| And.intro e0 <| And.intro e1 <| And.intro e2 <| And.intro e3 <| bneA
    repeat (first | refine st ?_ | refine cC hc ?_)
    refine ⟨i + 1, ⟨hlt, hyes (by rw [act_eq x y]; simp [e0, e1, e2, e3])⟩, ?_, ?_, ?_⟩
    · (simp only [go_sem, F])
    · (simp only [go_sem, F])
    · omega
  · have k1 : ¬ (i : Int) < (a.length : Int) := by omega
    rw [same_all ht (by omega) (by omega)]
    have F := k1
    repeat refine st ?_
    exact aR
theorem rSameStates_con (env : Env) (a b : List StD) (hn : a.length ≤ 9223372036854775807) (hf : ∀ x ∈ a, few_st x) : Con Tryd.prog env 22 [stsAV a, stsAV b] (B (a == b)) := by
  refine con_of_body Tryd.func22 rfl Tryd.call22 (by rw [Tryd.ntmps22]; simp) ?_
  rw [Tryd.ntmps22, Tryd.results22]
  by_cases hl : a.length = b.length
  case neg =>
    have k0 := ibne hl
    rw [unlike_len hl]
    have F := And.intro k0 <| bneA
    repeat refine st ?_
    exact aR
  have k0 : ((a.length : Int) == (b.length : Int)) = true := by rw [hl]; simp
  have F := And.intro k0 <| bneA
  repeat refine st ?_
  refine awp_loopH (D := Nat) (fun i _ => [(0, stsAV a), (1, stsAV b), (5, I i)]) (fun _ _ => []) (fun i _ _ => i ≤ a.length ∧ a.take i = b.take i) (fun i => a.length - i) 0 ?_ ?_ ?_ ?_
  · exact ⟨Nat.zero_le _, rfl⟩
  · (simp only [go_sem, F])
  · (simp only [go_sem, F])
  rintro i ws esc ⟨hi, ht⟩
  by_cases hlt : i < a.length
  · obtain ⟨x, hx, hxm⟩ := some_at hlt
    obtain ⟨y, hy, hym⟩ := some_at (show i < b.length by omega)
    have k1 := nlt hlt
    have k3 := nlt (show i < b.length by omega)
    have k2 := wrap_succ hlt hn
    have h1 := rSameActs_con env x.inn y.inn (by have := (hf x hxm).2.1.1; unfold maxLen at this; omega) (hf x hxm).2.1.2
    have h2 := rSameActs_con env x.out y.out (by have := (hf x hxm).2.2.1; unfold maxLen at this; omega) (hf x hxm).2.2.2
    have hno : (x == y) = false → (a == b) = false := fun h => unlike_at hx hy (by simpa using h)
    have hyes : (x == y) = true → a.take (i + 1) = b.take (i + 1) := fun h => take_same ht hx hy (by simpa using h)
    cases e0 : (x.name == y.name)
    · rw [hno (by rw [st_eq x y]; simp [e0])]
      have F := And.intro k1 <| And.intro k2 <| And.intro k3 <| And.intro hx <| And.intro hy <| And.intro stAV.eq_1 <| And.intro e0 <| bneA
      repeat (first | refine st ?_ | refine cC h1 ?_ | refine cC h2 ?_)
      exact aR
    cases e1 : (x.kind == y.kind)
    · rw [hno (by rw [st_eq x y]; simp [e0, e1])]
      have F := And.intro k1 <| And.intro k2 <| And.intro k3 <| And.intro hx <| And.intro hy <| And.intro stAV.eq_1 <| And.intro e0 <| And.intro e1 <| bneA
      repeat (first | refine st ?_ | refine cC h1 ?_ | refine cC h2 ?_)
      exact aR
    cases e2 : (x.parent == y.parent)
    · rw [hno (by rw [st_eq x y]; simp [e0, e1, e2])]
      have F := And.intro k1 <| And.intro k2 <| And.intro k3 <| And.intro hx <| And.intro hy <| And.intro stAV.eq_1 <| And.intro e0 <| And.intro e1 <| And.intro e2 <| bneA
      repeat (first | refine st ?_ | refine cC h1 ?_ | refine cC h2 ?_)
      exact aR
    cases e3 : (x.initial == y.initial)
    · rw [hno (by rw [st_eq x y]; simp [e0, e1, e2, e3])]
      have F := And.intro k1 <| And.intro k2 <| And.intro k3 <| And.intro hx <| And.intro hy <| And.intro stAV.eq_1 <| And.intro e0 <| And.intro e1 <| And.intro e2 <| And.intro e3 <| bneA
      repeat (first | refine st ?_ | refine cC h1 ?_ | refine cC h2 ?_)
      exact aR
    cases e4 : (x.inn == y.inn)
    · rw [hno (by rw [st_eq x y]; simp [e0, e1, e2, e3, e4])]
      have F := And.intro k1 <| And.intro k2 <| And.intro k3 <| And.intro hx <| And.intro hy <| And.intro stAV.eq_1 <| And.intro e0 <| And.intro e1 <| And.intro e2 <| And.intro e3 <| And.intro e4 <| bneA
      repeat (first | refine st ?_ | refine cC h1 ?_ | refine cC h2 ?_)
      exact aR
    cases e5 : (x.out == y.out)
    · rw [hno (by rw [st_eq x y]; simp [e0, e1, e2, e3, e4, e5])]
      have F := And.intro k1 <| And.intro k2 <| And.intro k3 <| And.intro hx <| And.intro hy <| And.intro stAV.eq_1 <| And.intro e0 <| And.intro e1 <| And.intro e2 <| And.intro e3 <| And.intro e4 <| And.intro e5 <| bneA
      repeat (first | refine st ?_ | refine cC h1 ?_ | refine cC h2 ?_)
      exact aR
    have F := And.intro k1 <| And.intro k2 <| And.intro k3 <| And.intro hx <| And.intro hy <| And.intro stAV.eq_1 <| And.intro e0 <| And.intro e1 <| And.intro e2 <| And.intro e3 <| And.intro e4 <| And.intro e5 <| bneA
    repeat (first | refine st ?_ | refine cC h1 ?_ | refine cC h2 ?_)
    refine ⟨i + 1, ⟨hlt, hyes (by rw [st_eq x y]; simp [e0, e1, e2, e3, e4, e5])⟩, ?_, ?_, ?_⟩
    · (simp only [go_sem, F])
    · (simp only [go_sem, F])
    · omega
  · have k1 : ¬ (i : Int) < (a.length : Int) := by omega
    rw [same_all ht (by omega) (by omega)]
    have F := k1
    repeat refine st ?_
    exact aR
theorem rSame_con (env : Env) (a b : ChD) (hf : few_ch a) : Con Tryd.prog env 9 [.agg (chAV a), .agg (chAV b)] (B (a == b)) := by
  have h1 := rSameStates_con env a.states b.states (by have := hf.2.2.1.1; unfold maxLen at this; omega) hf.2.2.1.2
  have nv : a.vars.length ≤ 9223372036854775807 := by have := hf.2.1.1; unfold maxLen at this; omega
  have nt : a.trans.length ≤ 9223372036854775807 := by have := hf.2.2.2.1; unfold maxLen at this; omega
  rw [ch_eq]
  refine con_of_body Tryd.func9 rfl Tryd.call9 (by rw [Tryd.ntmps9]; simp) ?_
  rw [Tryd.ntmps9, Tryd.results9]
  cases e0 : (a.name == b.name)
  · have F := And.intro chAV.eq_1 <| And.intro e0 <| bneA
    repeat (first | refine st ?_ | refine cC h1 ?_)
    exact aR
  cases e1 : (a.initial == b.initial)
  · have F := And.intro chAV.eq_1 <| And.intro e0 <| And.intro e1 <| bneA
    repeat (first | refine st ?_ | refine cC h1 ?_)
    exact aR
  by_cases lv : a.vars.length = b.vars.length
  case neg =>
    have k0 := ibne lv
    rw [unlike_len lv]
    have F := And.intro chAV.eq_1 <| And.intro e0 <| And.intro e1 <| And.intro k0 <| bneA
    repeat (first | refine st ?_ | refine cC h1 ?_)
    exact aR
  have k0 : ((a.vars.length : Int) == (b.vars.length : Int)) = true := by rw [lv]; simp
  by_cases lt : a.trans.length = b.trans.length
  case neg =>
    have k5 := ibne lt
    rw [unlike_len lt, Bool.and_false]
    have F := And.intro chAV.eq_1 <| And.intro e0 <| And.intro e1 <| And.intro k0 <| And.intro k5 <| bneA
    repeat (first | refine st ?_ | refine cC h1 ?_)
    exact aR
  have k5 : ((a.trans.length : Int) == (b.trans.length : Int)) = true := by rw [lt]; simp
  cases e2 : (a.states == b.states)
  · rw [Bool.and_false, Bool.false_and]
    have F := And.intro chAV.eq_1 <| And.intro e0 <| And.intro e1 <| And.intro k0 <| And.intro k5 <| And.intro e2 <| bneA
    repeat (first | refine st ?_ | refine cC h1 ?_)
    exact aR
  have F := And.intro chAV.eq_1 <| And.intro e0 <| And.intro e1 <| And.intro k0 <| And.intro k5 <| And.intro e2 <| bneA
  repeat (first | refine st ?_ | refine cC h1 ?_)
  refine awp_loopH (D := Nat) (fun i vs => [(2, .loc 2 (vs 2) 0 0), (3, .loc 3 (vs 3) 0 0), (5, I i)]) (fun _ _ => [(2, ⟨5, [chAV a], 26, false⟩), (3, ⟨5, [chAV b], 26, false⟩)]) (fun i _ _ => i ≤ a.vars.length ∧ a.vars.take i = b.vars.take i) (fun i => a.vars.length - i) 0 ?_ ?_ ?_ ?_
  · exact ⟨Nat.zero_le _, rfl⟩
  · (simp only [go_sem, F])
  · (simp only [go_sem, F])
  rintro i ws esc ⟨hi, ht⟩
  by_cases hlt : i < a.vars.length
  · obtain ⟨x, hx, hxm⟩ := some_at hlt
    obtain ⟨y, hy, hym⟩ := some_at (show i < b.vars.length by omega)
    have k1 := nlt hlt
    have k3 := nlt (show i < b.vars.length by omega)
    have k2 := wrap_succ hlt nv
    cases e : (x == y)
    · rw [unlike_at hx hy (by simpa using e)]
      have e3 : (x.name == y.name && x.start == y.start) = false := by rw [← var_eq x y]; exact e
      have F := And.intro chAV.eq_1 <| And.intro k1 <| And.intro k2 <| And.intro k3 <| And.intro hx <| And.intro hy <| And.intro varAV.eq_1 <| And.intro e3 <| bneA
      repeat refine st ?_
      exact aR
    · have e3 : (x.name == y.name && x.start == y.start) = true := by rw [← var_eq x y]; exact e
      have F := And.intro chAV.eq_1 <| And.intro k1 <| And.intro k2 <| And.intro k3 <| And.intro hx <| And.intro hy <| And.intro varAV.eq_1 <| And.intro e3 <| bneA
      repeat refine st ?_
      refine ⟨i + 1, ⟨hlt, take_same ht hx hy (by simpa using e)⟩, ?_, ?_, ?_⟩
      · (simp only [go_sem, F])
      · (simp only [go_sem, F])
      · omega
  have k1 : ¬ (i : Int) < (a.vars.length : Int) := by omega
  have ev := same_all ht (by omega) (by omega)
  rw [ev]
  have F := And.intro chAV.eq_1 <| k1
  repeat refine st ?_
  refine awp_loopH (D := Nat) (fun i vs => [(2, .loc 2 (vs 2) 0 0), (3, .loc 3 (vs 3) 0 0), (6, I i)]) (fun _ _ => [(2, ⟨5, [chAV a], 26, false⟩), (3, ⟨5, [chAV b], 26, false⟩)]) (fun i _ _ => i ≤ a.trans.length ∧ a.trans.take i = b.trans.take i) (fun i => a.trans.length - i) 0 ?_ ?_ ?_ ?_
  · exact ⟨Nat.zero_le _, rfl⟩
  · (simp only [go_sem, F])
  · (simp only [go_sem, F])
  rintro i ws' esc' ⟨hi, ht⟩
  by_cases hlt : i < a.trans.length
  · obtain ⟨x, hx, hxm⟩ := some_at hlt
    obtain ⟨y, hy, hym⟩ := some_at (show i < b.trans.length by omega)
    have k1 := nlt hlt
    have k3 := nlt (show i < b.trans.length by omega)
    have k2 := wrap_succ hlt nt
    have fx := hf.2.2.2.2 x hxm
    have g1 := rSameOps_con env x.guard y.guard (by have := fx.2.1.1; unfold maxLen at this; omega)
    have g2 := rSameActs_con env x.acts y.acts (by have := fx.2.2.1; unfold maxLen at this; omega) fx.2.2.2
    have hno : (x == y) = false → (a.trans == b.trans) = false := fun h => unlike_at hx hy (by simpa using h)
    have hyes : (x == y) = true → a.trans.take (i + 1) = b.trans.take (i + 1) := fun h => take_same ht hx hy (by simpa using h)
    cases e0 : (x.src == y.src)
    · rw [hno (by rw [tr_eq x y]; simp [e0])]
      have F := And.intro chAV.eq_1 <| And.intro k1 <| And.intro k2 <| And.intro k3 <| And.intro hx <| And.intro hy <| And.intro trAV.eq_1 <| And.intro e0 <| bneA
      repeat (first | refine st ?_ | refine cC g1 ?_ | refine cC g2 ?_)
      exact aR
    cases e1 : (x.event == y.event)
    · rw [hno (by rw [tr_eq x y]; simp [e0, e1])]
      have F := And.intro chAV.eq_1 <| And.intro k1 <| And.intro k2 <| And.intro k3 <| And.intro hx <| And.intro hy <| And.intro trAV.eq_1 <| And.intro e0 <| And.intro e1 <| bneA
      repeat (first | refine st ?_ | refine cC g1 ?_ | refine cC g2 ?_)
      exact aR
    cases e2 : (x.target == y.target)
    · rw [hno (by rw [tr_eq x y]; simp [e0, e1, e2])]
      have F := And.intro chAV.eq_1 <| And.intro k1 <| And.intro k2 <| And.intro k3 <| And.intro hx <| And.intro hy <| And.intro trAV.eq_1 <| And.intro e0 <| And.intro e1 <| And.intro e2 <| bneA
      repeat (first | refine st ?_ | refine cC g1 ?_ | refine cC g2 ?_)
      exact aR
    cases e3 : (x.guard == y.guard)
    · rw [hno (by rw [tr_eq x y]; simp [e0, e1, e2, e3])]
      have F := And.intro chAV.eq_1 <| And.intro k1 <| And.intro k2 <| And.intro k3 <| And.intro hx <| And.intro hy <| And.intro trAV.eq_1 <| And.intro e0 <| And.intro e1 <| And.intro e2 <| And.intro e3 <| bneA
      repeat (first | refine st ?_ | refine cC g1 ?_ | refine cC g2 ?_)
      exact aR
    cases e4 : (x.acts == y.acts)
    · rw [hno (by rw [tr_eq x y]; simp [e0, e1, e2, e3, e4])]
      have F := And.intro chAV.eq_1 <| And.intro k1 <| And.intro k2 <| And.intro k3 <| And.intro hx <| And.intro hy <| And.intro trAV.eq_1 <| And.intro e0 <| And.intro e1 <| And.intro e2 <| And.intro e3 <| And.intro e4 <| bneA
      repeat (first | refine st ?_ | refine cC g1 ?_ | refine cC g2 ?_)
      exact aR
    have F := And.intro chAV.eq_1 <| And.intro k1 <| And.intro k2 <| And.intro k3 <| And.intro hx <| And.intro hy <| And.intro trAV.eq_1 <| And.intro e0 <| And.intro e1 <| And.intro e2 <| And.intro e3 <| And.intro e4 <| bneA
    repeat (first | refine st ?_ | refine cC g1 ?_ | refine cC g2 ?_)
    refine ⟨i + 1, ⟨hlt, hyes (by rw [tr_eq x y]; simp [e0, e1, e2, e3, e4])⟩, ?_, ?_, ?_⟩
    · (simp only [go_sem, F])
    · (simp only [go_sem, F])
    · omega
  have k1 : ¬ (i : Int) < (a.trans.length : Int) := by omega
  rw [same_all ht (by omega) (by omega)]
  have F := And.intro chAV.eq_1 <| k1
  repeat refine st ?_
  exact aR
end Go.Proofs.YtaonccobohiiiaaDoor
