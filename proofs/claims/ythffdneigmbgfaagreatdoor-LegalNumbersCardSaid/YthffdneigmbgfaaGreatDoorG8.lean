/- The law LegalClosed. -/
import Derived.Test.YthffdneigmbgfaaGreatDoorG1
import Derived.Test.YthffdneigmbgfaaGreatDoorG6
import Derived.Test.YthffdneigmbgfaaGreatDoorM7
set_option linter.unusedSimpArgs false
namespace Go.Proofs.YthffdneigmbgfaaGreatDoor
open Go.RowKit
set_option maxRecDepth 100000
set_option maxHeartbeats 8000000
def togP (R : List Nat) (i : Int) (k : Nat) : Bool := inL R (k : Int) != ((k : Int) == i)
def togTo (R : List Nat) (i : Int) (j : Nat) : List Nat := (List.range j).filter (togP R i)
theorem tog_bad {c : ChD} (h : Full c) {l : List Nat} (hl : lgB c (zL (riseL c l)) = true) {i : Nat} (hi : i < c.states.length) : lgB c (zL (togTo (riseL c l) i c.states.length)) = false := by
  have hm : ∀ x, x ∈ togTo (riseL c l) i c.states.length ↔ x < c.states.length ∧ (x ∈ riseL c l ↔ x ≠ i) := fun x => by
    unfold togTo togP
    rw [List.mem_filter, List.mem_range]
    have e : ((x : Int) == (i : Int)) = decide (x = i) := by rw [Bool.eq_iff_iff, beq_iff_eq, decide_eq_true_iff]; omega
    rw [e, ← inL_mem (l := riseL c l)]
    cases inL (riseL c l) (x : Int) <;> by_cases q : x = i <;> simp [q]
  have hr : ∀ x, x ∈ riseL c l → x < c.states.length := fun x hx => (rise_mem.1 hx).1
  cases hb : lgB c (zL (togTo (riseL c l) i c.states.length)) with
  | false => rfl
  | true =>
    exfalso
    by_cases q : i ∈ riseL c l
    · refine legal_one h hb hl (i := i) (fun e => ?_) (fun x => ?_)
      · exact ((hm i).1 e).2.1 q rfl
      · rw [hm]
        constructor
        · intro hx
          by_cases e : x = i
          · exact .inr e
          · exact .inl ⟨hr x hx, fun _ => e, fun _ => hx⟩
        · rintro (⟨_, e⟩ | rfl)
          · by_cases e2 : x = i
            · rw [e2]; exact q
            · exact e.2 e2
          · exact q
    · refine legal_one h hl hb (i := i) q (fun x => ?_)
      rw [hm]
      constructor
      · rintro ⟨h1, h2⟩
        by_cases e : x = i
        · exact .inr e
        · exact .inl (h2.2 e)
      · rintro (e | rfl)
        · exact ⟨hr x e, fun _ e2 => q (e2 ▸ e), fun _ => e⟩
        · exact ⟨hi, fun e => absurd e q, fun e => absurd rfl e⟩
theorem u64_nat (x : Int) : ∃ U : Nat, IntKind.u64.wrap x = (U : Int) := by
  refine ⟨(x % 18446744073709551616).toNat, ?_⟩
  simp [IntKind.wrap, IntKind.bits, IntKind.signed]
  omega
theorem lawLegalClosed_con (ad : Nat → Addr) (c : ChD) (hcf : few_ch c) (x i : Int) : Con Tryz.prog (errEnv ad lgMore) 10 [.agg (chAV c), I x, I i] (B true) := by
  have he := lgEnv_ch ad
  have hT := lgEnv_tab ad
  have ft := fun p => tells29_con ad lgMore 1 (by omega) p
  generalize errEnv ad lgMore = env at *
  have fa := awake29_con env _ _ he hT
  have fr := rests29_con env c
  cases hg : goodB c with
  | false =>
    rw [hg] at fr
    have fm := made29_none env c hg
    refine con_of_body Tryz.func10 rfl Tryz.call10 (by rw [Tryz.ntmps10]; simp) ?_
    rw [Tryz.ntmps10, Tryz.results10]
    have F := chAV.eq_1
    repeat (first | refine st ?_ | refine cC fm ?_ | refine cC fr ?_ | refine cC fa ?_)
    exact aR
  | true =>
    have h := good_full hg
    have hlen := h.few
    have hsm := small_of (good_chk hg)
    have fm := made29_con env _ _ he hT c hcf hg
    have f0 := rIs_con env c i
    cases hz : inZ c i with
    | false =>
      rw [hz] at f0
      unfold tabAV at fm
      refine con_of_body Tryz.func10 rfl Tryz.call10 (by rw [Tryz.ntmps10]; simp) ?_
      rw [Tryz.ntmps10, Tryz.results10]
      have F := chAV.eq_1
      repeat (first | refine st ?_ | refine cC fm ?_ | refine cC fr ?_ | refine cC fa ?_ | refine cC f0 ?_)
      exact aR
    | true =>
      rw [hz] at f0
      obtain ⟨k, s, rfl, hs, ha⟩ := at_in hz
      have hi := (List.getElem?_eq_some_iff.1 hs).1
      have f2 := countAll_con env c h hsm
      obtain ⟨hc1, hc2⟩ := cnt_ok h.toRight (i := -1) (by omega)
      have e1 : ¬ ((cntN c (-1) : Nat) : Int) < 1 := by omega
      by_cases hc : cntN c (-1) = 2147483647
      · have e3 : (((cntN c (-1) : Nat) : Int) == 2147483647) = true := by simp; omega
        have e4 : (0 : Int) < ((cntN c (-1) : Nat) : Int) := by omega
        unfold tabAV at fm f2
        generalize cntN c (-1) = m at *
        refine con_of_body Tryz.func10 rfl Tryz.call10 (by rw [Tryz.ntmps10]; simp) ?_
        rw [Tryz.ntmps10, Tryz.results10]
        have F := And.intro chAV.eq_1 <| And.intro e1 <| And.intro e3 <| e4
        repeat (first | refine st ?_ | refine cC fm ?_ | refine cC fr ?_ | refine cC fa ?_ | refine cC f0 ?_ | refine cC f2 ?_)
        exact aR
      · obtain ⟨U, hU⟩ := u64_nat x
        have hc : cntN c (-1) < 2147483647 := by omega
        have hn : U % cntN c (-1) < cntN c (-1) := Nat.mod_lt _ (by omega)
        have f3 := pNth_ok env c h hsm (U % cntN c (-1)) hn hc
        have hN := nth_ok h.toRight 40 (-1) (U % cntN c (-1)) (by omega) (by omega) hn hc
        have hRF : riseL c (nthR c 40 (-1) (U % cntN c (-1))) = riseL c (nthF c 40 (-1) (U % cntN c (-1))) := rise_same fun y => nthR_mem 40 (-1) _ y
        rw [hRF] at f3
        have hl := first_len c (nthF c 40 (-1) (U % cntN c (-1)))
        have htb := tog_bad h (nth_legal h hN) hi
        have hol : (togTo (riseL c (nthF c 40 (-1) (U % cntN c (-1)))) k c.states.length).length ≤ c.states.length := pfilter_len _ _
        have f5 := check29_con env _ _ he c h hsm (zL (togTo (riseL c (nthF c 40 (-1) (U % cntN c (-1)))) k c.states.length)) (by rw [zL_len]; omega) (zL_ge _)
        unfold chkE at f5
        rw [if_neg (by rw [htb]; simp), zL_int] at f5
        have ft := ft (lgChk c (zL (togTo (riseL c (nthF c 40 (-1) (U % cntN c (-1)))) k c.states.length))).2
        change Con _ _ _ [_, I 1] _ at ft
        have e3 : (((cntN c (-1) : Nat) : Int) == 2147483647) = false := by simp; omega
        have k1 : IntKind.u64.wrap ((cntN c (-1) : Nat) : Int) = ((cntN c (-1) : Nat) : Int) := IntWalk.u64_in _ (by omega)
        have k2 := nat_tmod U (cntN c (-1))
        have k3 : IntKind.i64.wrap ((U % cntN c (-1) : Nat) : Int) = ((U % cntN c (-1) : Nat) : Int) := wrap_nat (by omega)
        have m0 : ¬ ((cntN c (-1) : Nat) : Int) = 0 := by omega
        unfold tabAV at fm f2 f3 f5
        try clear hN hRF htb
        generalize (lgChk c (zL (togTo (riseL c (nthF c 40 (-1) (U % cntN c (-1)))) k c.states.length))).2 = P at *
        generalize riseL c (nthF c 40 (-1) (U % cntN c (-1))) = R at *
        generalize cntN c (-1) = m at *
        refine con_of_body Tryz.func10 rfl Tryz.call10 (by rw [Tryz.ntmps10]; simp) ?_
        rw [Tryz.ntmps10, Tryz.results10]
        have F := And.intro chAV.eq_1 <| And.intro e1 <| And.intro e3 <| And.intro hU <| And.intro k1 <| And.intro k2 <| And.intro k3 <| m0
        repeat (first | refine st ?_ | refine cC fm ?_ | refine cC fr ?_ | refine cC fa ?_ | refine cC f0 ?_ | refine cC f2 ?_ | refine cC f3 ?_)
        refine awp_loopH (D := Nat) (fun j vs => [(2, I k), (3, .loc 3 (vs 3) 0 0), (7, .ref 9 [tabCells c] 0 0), (9, .seq 1 (R.map natAV)), (10, nilE), (11, .row 56 (vs 56)), (12, I j)]) (fun j _ => [(3, ⟨5, [chAV c], 26, false⟩), (56, ⟨1, (togTo R k j).map natAV, 3, true⟩)]) (fun j _ esc => j ≤ c.states.length ∧ esc 56 = false) (fun j => c.states.length - j) 0 ?_ ?_ ?_ ?_
        · exact ⟨Nat.zero_le _, rfl⟩
        · (simp only [go_sem, F])
        · have F := chAV.eq_1
          (simp only [go_sem, F])
          try rfl
        rintro j ws esc ⟨hj, e0⟩
        by_cases hlt : j < c.states.length
        · have g1 := nlt hlt
          have g2 := wrap_succ hlt (by omega)
          have f6 := rIn_con env R j (by omega)
          unfold nsAV at f6
          have hn2 : togTo R k (j + 1) = if togP R k j then togTo R k j ++ [j] else togTo R k j := pfilter_succ (togP R k) j
          have hle : (togTo R k j).length ≤ j := pfilter_len (togP R k) j
          have hf : Fits ((togTo R k j).length + 1) 8 := fits_small (by omega) (by omega)
          have hp : togP R k j = (inL R (j : Int) != ((j : Int) == (k : Int))) := rfl
          rw [hp] at hn2
          cases b1 : inL R (j : Int) <;> cases b2 : ((j : Int) == (k : Int)) <;>
          · rw [b1] at f6
            rw [b1, b2] at hn2
            simp only [bne_self_eq_false, Bool.false_eq_true, if_false, Bool.false_bne, Bool.bne_false, Bool.true_bne, Bool.not_false, if_true] at hn2
            have F := And.intro chAV.eq_1 <| And.intro natAV.eq_1 <| And.intro g1 <| And.intro g2 <| And.intro hf <| And.intro e0 <| b2
            repeat (first | refine st ?_ | refine cC f6 ?_)
            refine ⟨j + 1, ⟨hlt, by simp only [go_sem, e0]⟩, ?_, ?_, by omega⟩
            · (simp only [go_sem, F])
            · have F := And.intro chAV.eq_1 <| And.intro natAV.eq_1 <| hn2
              (simp only [go_sem, List.map_append, F])
        · obtain rfl : j = c.states.length := by omega
          have g1 : ¬ (c.states.length : Int) < (c.states.length : Int) := by omega
          have F := And.intro chAV.eq_1 <| And.intro g1 <| e0
          repeat (first | refine st ?_ | refine cC f5 ?_ | refine cC ft ?_ | refine cC fa ?_)
          exact aR
end Go.Proofs.YthffdneigmbgfaaGreatDoor
