/- Contracts of the program's checks of a state's parent and shape: by the walk without memory. -/
import Derived.Test.YtaonccobohiiiaaDoorH5
import Derived.Test.YtaonccobohiiiaaDoorEv
import Derived.Test.YtaonccobohiiiaaDoorSt
set_option linter.unusedSimpArgs false
namespace Go.Proofs.YtaonccobohiiiaaDoor
open Go.RowKit
set_option maxRecDepth 100000
set_option maxHeartbeats 8000000

theorem pAt_con (env : Env) (c : ChD) (i : Int) : Con Tryd.prog env 36 [.agg (chAV c), I i] (B (decide (0 ≤ i) && decide (i < c.states.length))) := by
  refine con_of_body Tryd.func36 rfl Tryd.call36 (by rw [Tryd.ntmps36]; simp) ?_
  rw [Tryd.ntmps36, Tryd.results36]
  by_cases h1 : 0 ≤ i <;> by_cases h2 : i < (c.states.length : Int) <;>
  · have F := And.intro chAV.eq_1 <| And.intro h1 <| h2
    repeat refine st ?_
    exact aR
theorem Str.ifl (t : TypeId) (v : Value) : Str (.lit (.iface t v)) (.iface t (.lit v)) := fun S w u h => by
  obtain rfl := h.lit_inv
  exact .iface t v (.lit v) (.lit v)
theorem Str.lfi (t : TypeId) (v : Value) : Str (.iface t (.lit v)) (.lit (.iface t v)) := fun S w u h => by
  cases h with
  | iface _ v' _ h =>
    obtain rfl := h.lit_inv
    exact .lit _
theorem errV_str2 (s p : AV) (q : Int) (hp : p = I q) (e e' : AV) (he : Str e' e) : RStr (.iface 70 (.ref 3 [[s, p, e']] 0 0)) (errV q e) := by
  subst hp
  exact .of (.iface (.ref1 (cs := [.any, I q, e]) (.cons (.any _) (.cons (.refl _) (.cons he .nil))))) (fun _ _ _ h => by cases h) (fun _ _ _ h => by cases h)
theorem fAt_con (env : Env) (s : List UInt8) (p : Int) (a : Addr) (hp : -1 ≤ p) : Con Tryd.prog env 45 [Sg s, I p, sentV a] (errV p (sentV a)) := by
  refine Con.args (cs := [Sg s, I p, .iface 143 (.lit (.pointer (some a)))]) ?_ (.cons (.refl _) (.cons (.refl _) (.cons (.ifl _ _) .nil)))
  have h1 : ¬ p < -1 := by omega
  refine con_of_body_w Tryd.func45 rfl Tryd.call45 (by rw [Tryd.ntmps45]; simp) ?_
  rw [Tryd.ntmps45, Tryd.results45]
  have F := h1
  repeat refine st ?_
  (refine awp_ret ?_; refine ⟨_, (by show (resRd _ _ _).run _ = some _; simp only [go_sem, F]; rfl), ?_⟩)
  exact errV_str2 _ _ _ rfl _ _ (.lfi _ _)
theorem pBad_con (env : Env) (a1 a8 : Addr) (he : ChEnv env a1 a8) (p : Int) (hp : -1 ≤ p) : Con Tryd.prog env 33 [I p] (errV p (sentV a1)) := by
  have g1 := gt_at he.e1
  refine con_of_body Tryd.func33 rfl Tryd.call33 (by rw [Tryd.ntmps33]; simp) ?_
  rw [Tryd.ntmps33, Tryd.results33]
  have F := g1
  repeat (first | refine st ?_ | refine cC (fAt_con env _ p a1 hp) ?_)
  exact aR
theorem at_nat (c : ChD) (m : Nat) : at_ c (m : Int) = c.states[m]? := by simp [at_]
theorem normAt_nat {c : ChD} {m : Nat} {q : StD} (h : c.states[m]? = some q) : normAt c (m : Int) = normB q := by unfold normAt; rw [at_nat, h]
theorem nat_of {n : Int} (h : 0 ≤ n) : ∃ m : Nat, n = m := ⟨n.toNat, by omega⟩
theorem pParent_con (env : Env) (c : ChD) (i : Nat) (s : StD) (hs : c.states[i]? = some s) : Con Tryd.prog env 47 [.agg (chAV c), I i] (B (parentB c i s)) := by
  have hi : i < c.states.length := (List.getElem?_eq_some_iff.1 hs).1
  have k0 := nlt hi
  refine con_of_body Tryd.func47 rfl Tryd.call47 (by rw [Tryd.ntmps47]; simp) ?_
  rw [Tryd.ntmps47, Tryd.results47]
  cases h1 : (s.parent == -1)
  · by_cases h2 : 0 ≤ s.parent
    · obtain ⟨m, hm⟩ := nat_of h2
      by_cases h3 : (m : Int) < (i : Int)
      · have hml : m < c.states.length := by omega
        obtain ⟨q, hq, _⟩ := some_at hml
        have k3 := nlt hml
        have h1' : ((m : Int) == -1) = false := by rw [← hm]; exact h1
        rw [show parentB c i s = normB q by unfold parentB; rw [hm, normAt_nat hq, h1']; simp [h3]]
        have F := And.intro chAV.eq_1 <| And.intro k0 <| And.intro hs <| And.intro stAV.eq_1 <| And.intro hm <| And.intro h1' <| And.intro h3 <| And.intro k3 <| hq
        repeat (first | refine st ?_ | refine cC (pNormal_con env q) ?_)
        exact aR
      · have h1' : ((m : Int) == -1) = false := by rw [← hm]; exact h1
        rw [show parentB c i s = false by unfold parentB; rw [hm, h1']; simp [h3]]
        have F := And.intro chAV.eq_1 <| And.intro k0 <| And.intro hs <| And.intro stAV.eq_1 <| And.intro hm <| And.intro h1' <| h3
        repeat refine st ?_
        exact aR
    · rw [show parentB c i s = false by unfold parentB; rw [h1]; simp [h2]]
      have F := And.intro chAV.eq_1 <| And.intro k0 <| And.intro hs <| And.intro stAV.eq_1 <| And.intro h1 <| h2
      repeat refine st ?_
      exact aR
  · rw [show parentB c i s = true by unfold parentB; rw [h1]; rfl]
    have F := And.intro chAV.eq_1 <| And.intro k0 <| And.intro hs <| And.intro stAV.eq_1 <| h1
    repeat refine st ?_
    exact aR
theorem pPlain_con (env : Env) (c : ChD) (s : StD) (hp : s.parent < c.states.length) : Con Tryd.prog env 61 [.agg (chAV c), .agg (stAV s)] (B (plainB c s)) := by
  refine con_of_body Tryd.func61 rfl Tryd.call61 (by rw [Tryd.ntmps61]; simp) ?_
  rw [Tryd.ntmps61, Tryd.results61]
  by_cases h2 : 0 ≤ s.parent
  · obtain ⟨m, hm⟩ := nat_of h2
    have hml : m < c.states.length := by omega
    obtain ⟨q, hq, _⟩ := some_at hml
    have k3 := nlt hml
    rw [show plainB c s = (q.kind == 1) by unfold plainB; rw [hm, at_nat, hq]]
    have F := And.intro chAV.eq_1 <| And.intro stAV.eq_1 <| And.intro hm <| And.intro k3 <| hq
    repeat refine st ?_
    exact aR
  · rw [show plainB c s = false by unfold plainB at_; rw [if_neg h2]]
    have F := And.intro chAV.eq_1 <| And.intro stAV.eq_1 <| h2
    repeat refine st ?_
    exact aR
theorem wrap_zero {a b : Nat} (ha : a ≤ 9223372036854775807) (hb : b ≤ 9223372036854775807) : IntKind.i64.wrap ((a : Int) + (b : Int)) = 0 ↔ a + b = 0 := by
  by_cases h : a + b < 9223372036854775808
  · rw [wrap_in (by omega) (by omega)]
    omega
  · have : IntKind.i64.wrap ((a : Int) + (b : Int)) = (a : Int) + (b : Int) - 18446744073709551616 := by
      simp [IntKind.wrap, IntKind.bits, IntKind.signed]
      omega
    omega
theorem nil_len {α : Type} [DecidableEq α] (l : List α) : ((l.length : Int) == 0) = (l == []) := by
  rw [Bool.eq_iff_iff]
  simp
theorem parent_lt {c : ChD} {i : Nat} {s : StD} (hi : i < c.states.length) (h : parentB c i s = true) : s.parent < c.states.length := by
  unfold parentB at h
  simp only [Bool.or_eq_true, beq_iff_eq, Bool.and_eq_true, decide_eq_true_eq] at h
  omega
theorem kids_at {c : ChD} {i : Int} {real : Bool} {j k : Nat} (h : (kidsL c i real)[j]? = some k) : ∃ q, c.states[k]? = some q ∧ k < c.states.length := by
  have hk := kidsTo_lt (List.mem_of_getElem? h)
  obtain ⟨q, hq, _⟩ := some_at hk.1
  exact ⟨q, hq, hk.1⟩
theorem pShape_con (env : Env) (c : ChD) (i : Nat) (s : StD) (hs : c.states[i]? = some s) (hn : c.states.length ≤ 1000000) (hp : s.parent < c.states.length) (h1l : s.inn.length ≤ 9223372036854775807) (h2l : s.out.length ≤ 9223372036854775807) : Con Tryd.prog env 48 [.agg (chAV c), I i] (B (shapeB c i s)) := by
  have hi : i < c.states.length := (List.getElem?_eq_some_iff.1 hs).1
  have k0 := nlt hi
  have hreal := pReal_con env c i hn
  have hreal2 := pReal_con env c s.parent hn
  have hkids := pKids_con env c i hn
  have hplain := pPlain_con env c s hp
  have hKl : (kidsL c i true).length ≤ 1000000 := Nat.le_trans (kidsTo_len c i true _) hn
  have hKl2 : (kidsL c s.parent true).length ≤ 1000000 := Nat.le_trans (kidsTo_len c s.parent true _) hn
  have hcon := contains_con env (kidsL c i true) s.initial hKl
  have hcon2 := contains_con env (kidsL c s.parent true) s.initial hKl2
  have z1 := nil_len (kidsL c i true)
  have z2 := nil_len (kidsL c i false)
  have z3 := nil_len s.out
  refine con_of_body Tryd.func48 rfl Tryd.call48 (by rw [Tryd.ntmps48]; simp) ?_
  rw [Tryd.ntmps48, Tryd.results48]
  by_cases hk1 : s.kind = 1
  · have hr : shapeB c i s = (if kidsL c i true = [] then s.initial == -1 else inL (kidsL c i true) s.initial) := by unfold shapeB; rw [if_pos hk1]
    rw [hr]
    cases e1 : (kidsL c i true == [])
    · rw [if_neg (by simpa using e1)]
      have F := And.intro chAV.eq_1 <| And.intro k0 <| And.intro hs <| And.intro stAV.eq_1 <| And.intro hk1 <| And.intro z1 <| e1
      repeat (first | refine st ?_ | refine cC hreal ?_ | refine cC hcon ?_)
      exact aR
    · have e1' : kidsL c i true = [] := by simpa using e1
      rw [if_pos e1']
      cases e2 : (s.initial == -1)
      · have F := And.intro chAV.eq_1 <| And.intro k0 <| And.intro hs <| And.intro stAV.eq_1 <| And.intro hk1 <| And.intro z1 <| And.intro e1 <| e2
        repeat (first | refine st ?_ | refine cC hreal ?_ | refine cC hcon ?_)
        (refine awp_ret ?_; show (resRd _ _ _).run _ = some _; simp only [go_sem, F])
        rw [e1']
        rfl
      · have F := And.intro chAV.eq_1 <| And.intro k0 <| And.intro hs <| And.intro stAV.eq_1 <| And.intro hk1 <| And.intro z1 <| And.intro e1 <| e2
        repeat (first | refine st ?_ | refine cC hreal ?_ | refine cC hcon ?_)
        exact aR
  have b1 := ne_beq hk1
  by_cases hk2 : s.kind = 2
  · have hr : shapeB c i s = (((kidsL c i true).all fun k => normAt c k) && decide (0 < (kidsL c i true).length) && (s.initial == -1)) := by unfold shapeB; rw [if_neg hk1, if_pos hk2]
    rw [hr]
    have F := And.intro chAV.eq_1 <| And.intro k0 <| And.intro hs <| And.intro stAV.eq_1 <| hk2
    repeat (first | refine st ?_ | refine cC hreal ?_)
    refine awp_loopH (D := Nat) (fun j vs => [(1, I i), (2, .loc 2 (vs 2) 0 0), (5, .loc 5 (vs 5) 0 0), (6, .row 16 (vs 16)), (18, I 2), (37, .row 16 (vs 16)), (38, I (kidsL c i true).length), (39, I j)]) (fun _ _ => [(2, ⟨5, [chAV c], 26, false⟩), (5, ⟨6, [stAV s], 32, false⟩), (16, ⟨1, (kidsL c i true).map natAV, 3, true⟩)]) (fun j _ _ => j ≤ (kidsL c i true).length ∧ ((kidsL c i true).take j).all (fun k => normAt c k) = true) (fun j => (kidsL c i true).length - j) 0 ?_ ?_ ?_ ?_
    · exact ⟨Nat.zero_le _, rfl⟩
    · (simp only [go_sem, F])
    · (simp only [go_sem, F])
    rintro j ws esc ⟨hj, hall⟩
    by_cases hlt : j < (kidsL c i true).length
    · obtain ⟨k, hk, _⟩ := some_at hlt
      obtain ⟨q, hq, hkl⟩ := kids_at hk
      have k1 := nlt hlt
      have k2 := wrap_succ hlt (by omega)
      have k3 := nlt hkl
      have hnorm := pNormal_con env q
      cases e1 : normB q
      · rw [show ((kidsL c i true).all fun k => normAt c k) = false from all_not hk (by rw [normAt_nat hq]; exact e1), Bool.false_and, Bool.false_and]
        have F := And.intro chAV.eq_1 <| And.intro k1 <| And.intro k2 <| And.intro k3 <| And.intro hk <| And.intro hq <| And.intro natAV.eq_1 <| And.intro stAV.eq_1 <| e1
        repeat (first | refine st ?_ | refine cC hnorm ?_)
        exact aR
      · have F := And.intro chAV.eq_1 <| And.intro k1 <| And.intro k2 <| And.intro k3 <| And.intro hk <| And.intro hq <| And.intro natAV.eq_1 <| And.intro stAV.eq_1 <| e1
        repeat (first | refine st ?_ | refine cC hnorm ?_)
        refine ⟨j + 1, ⟨hlt, all_take_step hall hk (by rw [normAt_nat hq]; exact e1)⟩, ?_, ?_, ?_⟩
        · (simp only [go_sem, F])
        · (simp only [go_sem, F])
        · omega
    · have k1 : ¬ (j : Int) < ((kidsL c i true).length : Int) := by omega
      rw [all_end hall (by omega), Bool.true_and]
      have z4 : decide ((0 : Int) < ((kidsL c i true).length : Int)) = decide (0 < (kidsL c i true).length) := by rw [Bool.eq_iff_iff]; simp
      cases e1 : decide (0 < (kidsL c i true).length)
      · have e1' : ¬ (0 : Int) < ((kidsL c i true).length : Int) := by simpa using e1
        have F := And.intro chAV.eq_1 <| And.intro k1 <| And.intro stAV.eq_1 <| e1'
        repeat refine st ?_
        exact aR
      · have e1' : (0 : Int) < ((kidsL c i true).length : Int) := by simpa using e1
        have F := And.intro chAV.eq_1 <| And.intro k1 <| And.intro stAV.eq_1 <| e1'
        repeat refine st ?_
        exact aR
  have b2 := ne_beq hk2
  by_cases hk3 : s.kind = 3
  · have hr : shapeB c i s = ((kidsL c i false == []) && ((s.parent == -1) || plainB c s) && (s.initial == -1) && (s.out == [])) := by unfold shapeB; rw [if_neg hk1, if_neg hk2, if_pos hk3]
    rw [hr]
    cases e1 : (kidsL c i false == [])
    · have F := And.intro chAV.eq_1 <| And.intro k0 <| And.intro hs <| And.intro stAV.eq_1 <| And.intro hk3 <| And.intro z2 <| e1
      repeat (first | refine st ?_ | refine cC hreal ?_ | refine cC hkids ?_ | refine cC hplain ?_)
      exact aR
    · cases e2 : (s.parent == -1)
      · cases e3 : plainB c s
        · have F := And.intro chAV.eq_1 <| And.intro k0 <| And.intro hs <| And.intro stAV.eq_1 <| And.intro hk3 <| And.intro z2 <| And.intro e1 <| And.intro e2 <| e3
          repeat (first | refine st ?_ | refine cC hreal ?_ | refine cC hkids ?_ | refine cC hplain ?_)
          exact aR
        · cases e4 : (s.initial == -1)
          · have F := And.intro chAV.eq_1 <| And.intro k0 <| And.intro hs <| And.intro stAV.eq_1 <| And.intro hk3 <| And.intro z2 <| And.intro e1 <| And.intro e2 <| And.intro e3 <| e4
            repeat (first | refine st ?_ | refine cC hreal ?_ | refine cC hkids ?_ | refine cC hplain ?_)
            exact aR
          · have F := And.intro chAV.eq_1 <| And.intro k0 <| And.intro hs <| And.intro stAV.eq_1 <| And.intro hk3 <| And.intro z2 <| And.intro e1 <| And.intro e2 <| And.intro e3 <| And.intro e4 <| z3
            repeat (first | refine st ?_ | refine cC hreal ?_ | refine cC hkids ?_ | refine cC hplain ?_)
            exact aR
      · cases e4 : (s.initial == -1)
        · have F := And.intro chAV.eq_1 <| And.intro k0 <| And.intro hs <| And.intro stAV.eq_1 <| And.intro hk3 <| And.intro z2 <| And.intro e1 <| And.intro e2 <| e4
          repeat (first | refine st ?_ | refine cC hreal ?_ | refine cC hkids ?_ | refine cC hplain ?_)
          exact aR
        · have F := And.intro chAV.eq_1 <| And.intro k0 <| And.intro hs <| And.intro stAV.eq_1 <| And.intro hk3 <| And.intro z2 <| And.intro e1 <| And.intro e2 <| And.intro e4 <| z3
          repeat (first | refine st ?_ | refine cC hreal ?_ | refine cC hkids ?_ | refine cC hplain ?_)
          exact aR
  have b3 := ne_beq hk3
  by_cases hk45 : s.kind = 4 ∨ s.kind = 5
  · have hr : shapeB c i s = ((kidsL c i false == []) && plainB c s && inL (kidsL c s.parent true) s.initial && (s.inn == []) && (s.out == [])) := by unfold shapeB; rw [if_neg hk1, if_neg hk2, if_neg hk3, if_pos hk45]
    rw [hr]
    have z5 : (IntKind.i64.wrap ((s.inn.length : Int) + (s.out.length : Int)) == 0) = ((s.inn == []) && (s.out == [])) := by
      rw [Bool.eq_iff_iff]
      simp only [beq_iff_eq, Bool.and_eq_true, ← List.length_eq_zero_iff, wrap_zero h1l h2l]
      omega
    rw [Bool.and_assoc _ (s.inn == []), ← z5]
    rcases hk45 with hk | hk
    · cases e1 : (kidsL c i false == [])
      · have F := And.intro chAV.eq_1 <| And.intro k0 <| And.intro hs <| And.intro stAV.eq_1 <| And.intro hk <| And.intro z2 <| e1
        repeat (first | refine st ?_ | refine cC hreal ?_ | refine cC hkids ?_ | refine cC hplain ?_ | refine cC hreal2 ?_ | refine cC hcon2 ?_)
        exact aR
      · cases e2 : plainB c s
        · have F := And.intro chAV.eq_1 <| And.intro k0 <| And.intro hs <| And.intro stAV.eq_1 <| And.intro hk <| And.intro z2 <| And.intro e1 <| e2
          repeat (first | refine st ?_ | refine cC hreal ?_ | refine cC hkids ?_ | refine cC hplain ?_ | refine cC hreal2 ?_ | refine cC hcon2 ?_)
          exact aR
        · cases e3 : inL (kidsL c s.parent true) s.initial
          · have F := And.intro chAV.eq_1 <| And.intro k0 <| And.intro hs <| And.intro stAV.eq_1 <| And.intro hk <| And.intro z2 <| And.intro e1 <| And.intro e2 <| e3
            repeat (first | refine st ?_ | refine cC hreal ?_ | refine cC hkids ?_ | refine cC hplain ?_ | refine cC hreal2 ?_ | refine cC hcon2 ?_)
            exact aR
          · have F := And.intro chAV.eq_1 <| And.intro k0 <| And.intro hs <| And.intro stAV.eq_1 <| And.intro hk <| And.intro z2 <| And.intro e1 <| And.intro e2 <| e3
            repeat (first | refine st ?_ | refine cC hreal ?_ | refine cC hkids ?_ | refine cC hplain ?_ | refine cC hreal2 ?_ | refine cC hcon2 ?_)
            exact aR
    · cases e1 : (kidsL c i false == [])
      · have F := And.intro chAV.eq_1 <| And.intro k0 <| And.intro hs <| And.intro stAV.eq_1 <| And.intro hk <| And.intro z2 <| e1
        repeat (first | refine st ?_ | refine cC hreal ?_ | refine cC hkids ?_ | refine cC hplain ?_ | refine cC hreal2 ?_ | refine cC hcon2 ?_)
        exact aR
      · cases e2 : plainB c s
        · have F := And.intro chAV.eq_1 <| And.intro k0 <| And.intro hs <| And.intro stAV.eq_1 <| And.intro hk <| And.intro z2 <| And.intro e1 <| e2
          repeat (first | refine st ?_ | refine cC hreal ?_ | refine cC hkids ?_ | refine cC hplain ?_ | refine cC hreal2 ?_ | refine cC hcon2 ?_)
          exact aR
        · cases e3 : inL (kidsL c s.parent true) s.initial
          · have F := And.intro chAV.eq_1 <| And.intro k0 <| And.intro hs <| And.intro stAV.eq_1 <| And.intro hk <| And.intro z2 <| And.intro e1 <| And.intro e2 <| e3
            repeat (first | refine st ?_ | refine cC hreal ?_ | refine cC hkids ?_ | refine cC hplain ?_ | refine cC hreal2 ?_ | refine cC hcon2 ?_)
            exact aR
          · have F := And.intro chAV.eq_1 <| And.intro k0 <| And.intro hs <| And.intro stAV.eq_1 <| And.intro hk <| And.intro z2 <| And.intro e1 <| And.intro e2 <| e3
            repeat (first | refine st ?_ | refine cC hreal ?_ | refine cC hkids ?_ | refine cC hplain ?_ | refine cC hreal2 ?_ | refine cC hcon2 ?_)
            exact aR
  have b4 := ne_beq (fun h => hk45 (.inl h))
  have b5 := ne_beq (fun h => hk45 (.inr h))
  rw [show shapeB c i s = false by unfold shapeB; rw [if_neg hk1, if_neg hk2, if_neg hk3, if_neg hk45]]
  have F := And.intro chAV.eq_1 <| And.intro k0 <| And.intro hs <| And.intro stAV.eq_1 <| And.intro b1 <| And.intro b2 <| And.intro b3 <| And.intro b4 <| b5
  repeat (first | refine st ?_ | refine cC hreal ?_)
  exact aR
end Go.Proofs.YtaonccobohiiiaaDoor
