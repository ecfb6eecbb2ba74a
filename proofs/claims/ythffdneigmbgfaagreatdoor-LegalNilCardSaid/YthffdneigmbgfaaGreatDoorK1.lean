/- A list of ints that came in. -/
import Derived.Test.YthffdneigmbgfaaGreatDoorM23
import Derived.Test.YthffdneigmbgfaaGreatDoorG6
import Derived.Test.YthffdneigmbgfaaGreatDoorM7
import Derived.Test.YthffdneigmbgfaaGreatDoorM30
namespace Go.Proofs.YthffdneigmbgfaaGreatDoor
open Go.RowKit
theorem lg_code {c : ChD} {act : List Int} : (lgChk c act).1 = if lgB c act then 0 else 1 := by
  unfold lgB lgChk
  cases firstBad (lgAt c act) act.length with
  | some n => rfl
  | none => simp only; split <;> rfl
/-! What is active at first -/
/-! What begins is few -/
end Go.Proofs.YthffdneigmbgfaaGreatDoor
set_option linter.unusedSimpArgs false
namespace Go.Proofs.YthffdneigmbgfaaGreatDoor
open Go.RowKit
set_option maxRecDepth 100000
set_option maxHeartbeats 8000000
def chainV (ps : List Int) (e : AV) : AV := ps.foldr (fun p x => errV p x) e
theorem chain_at {S : Nat → Nat → Prop} {w : World} {a : Addr} (ha : Lies w a) : ∀ (ps : List Int) (v : Value), RV S w v (chainV ps (sentV a)) → ErrAt w a ps.length v
  | [], v, h => ⟨h.lit_inv, ha⟩
  | p :: ps, v, h => by
    have h : RV S w v (.iface 124 (.ref 3 [[.any, I p, chainV ps (sentV a)]] 0 0)) := h
    cases h with
    | iface t v c h =>
      cases h with
      | ref sz es i off b o u hz hc hr =>
        have h2 := hc 0 2 (chainV ps (sentV a)) rfl
        have h3 := hr 0 2 (chainV ps (sentV a)) rfl
        refine ⟨b, o + (0 * 3 + 0), u 0 2, rfl, ?_, chain_at ha ps _ h3⟩
        have := h2.2.1
        simpa using this
theorem code_chain (ad : Nat → Addr) (mo : More) (k : Nat) (hk : 1 ≤ k ∧ k ≤ 9) (ps : List Int) : Con Tryz.prog (errEnv ad mo) 93 [chainV ps (sentV (ad k))] (I k) :=
  con_lit Tryz.call93 fun w S vs hE hl hv => by
    match vs, hl with
    | [v], _ =>
      have hS : Sents w ad := hE.inv.1
      refine (code_any hS k hk ps.length v (chain_at (sents_lies hS k hk) ps v (hv 0 v _ rfl rfl))).mono ?_
      rintro e w' ⟨rfl, rfl⟩
      exact ⟨rfl, Below.refl _ _⟩
theorem tells29c_con (ad : Nat → Addr) (mo : More) (k : Nat) (hk : 1 ≤ k ∧ k ≤ 9) (p : Int) (ps : List Int) : Con Tryz.prog (errEnv ad mo) 47 [errV p (chainV ps (sentV (ad k))), I k] (B true) := by
  have f0 : Con Tryz.prog (errEnv ad mo) 93 [errV p (chainV ps (sentV (ad k)))] (I k) := code_chain ad mo k hk (p :: ps)
  have b0 : (((k : Nat) : Int) == 0) = false := by simp; omega
  generalize chainV ps (sentV (ad k)) = X at *
  refine con_of_body Tryz.func47 rfl Tryz.call47 (by rw [Tryz.ntmps47]; simp) ?_
  rw [Tryz.ntmps47, Tryz.results47]
  have F := b0
  repeat (first | refine st ?_ | refine cC f0 ?_)
  exact aR
theorem wrap_con (env : Env) (s : List UInt8) (p : Int) (e : AV) : Con Tryz.prog env 94 [Sg s, errV p e] (errV (-1) (errV p e)) := by
  refine con_of_body_w Tryz.func94 rfl Tryz.call94 (by rw [Tryz.ntmps94]; simp) ?_
  rw [Tryz.ntmps94, Tryz.results94]
  repeat refine st0 ?_
  (refine awp_ret ?_; refine ⟨_, (by show (resRd _ _ _).run _ = some _; simp only [go_sem]; rfl), ?_⟩)
  exact errV_str2 _ _ _ rfl _ _ (.refl _)
theorem fAtg_con (env : Env) (s : List UInt8) (p : Int) (a : Addr) : Con Tryz.prog env 125 [Sg s, I p, sentV a] (errV (max p (-1)) (sentV a)) := by
  refine Con.args (cs := [Sg s, I p, .iface 226 (.lit (.pointer (some a)))]) ?_ (.cons (.refl _) (.cons (.refl _) (.cons (.ifl _ _) .nil)))
  by_cases h1 : p < -1
  · rw [show max p (-1) = -1 by omega]
    refine con_of_body_w Tryz.func125 rfl Tryz.call125 (by rw [Tryz.ntmps125]; simp) ?_
    rw [Tryz.ntmps125, Tryz.results125]
    have F := h1
    repeat refine st ?_
    (refine awp_ret ?_; refine ⟨_, (by show (resRd _ _ _).run _ = some _; simp only [go_sem, F]; rfl), ?_⟩)
    exact errV_str2 _ _ _ rfl _ _ (.lfi _ _)
  · rw [show max p (-1) = p by omega]
    refine con_of_body_w Tryz.func125 rfl Tryz.call125 (by rw [Tryz.ntmps125]; simp) ?_
    rw [Tryz.ntmps125, Tryz.results125]
    have F := h1
    repeat refine st ?_
    (refine awp_ret ?_; refine ⟨_, (by show (resRd _ _ _).run _ = some _; simp only [go_sem, F]; rfl), ?_⟩)
    exact errV_str2 _ _ _ rfl _ _ (.lfi _ _)
theorem bad29g_con (env : Env) (a1 a8 : Addr) (he : ChEnv env a1 a8) (p : Int) : Con Tryz.prog env 89 [I p] (errV (max p (-1)) (sentV a1)) := by
  have g1 := gt_at he.e1
  have f0 := fAtg_con env [108, 101, 103, 97, 108, 46, 67, 104, 101, 99, 107] p a1
  refine con_of_body Tryz.func89 rfl Tryz.call89 (by rw [Tryz.ntmps89]; simp) ?_
  rw [Tryz.ntmps89, Tryz.results89]
  have F := g1
  repeat (first | refine st ?_ | refine cC f0 ?_)
  exact aR
theorem lgChk_badg {c : ChD} {act : List Int} {j : Nat} {x : Int} (hx : act[j]? = some x) (hall : ∀ m, m < j → lgAt c act m = true) (hb : lgAt c act j = false) : lgChk c act = (1, max x (-1)) := by
  have hj := (List.getElem?_eq_some_iff.1 hx).1
  unfold lgChk
  rw [firstBad_at hj hall hb]
  simp only [List.getD_eq_getElem?_getD, hx, Option.getD_some]
theorem check29g_con (env : Env) (a1 a8 : Addr) (he : ChEnv env a1 a8) (c : ChD) (h : Full c) (hsm : Small c) (act : List Int) (hl : act.length ≤ 1000000) : Con Tryz.prog env 43 [tabAV c, .seq 1 (act.map intAV)] (chkE a1 c act) := by
  have hlen := h.few
  have f0 := tabChart_con env c hsm
  have f1 := flags_con env c (by omega) act hl
  have f2 := fun (k : Nat) (s : StD) (hs : c.states[k]? = some s) => fits_con env c h act k s hs
  have f3 := tabReal_con env c h (-1)
  rw [if_pos (.inl rfl)] at f3
  have hK := kids_few h.toRight (-1) true
  have hKm : ∀ j ∈ kidsL c (-1) true, j < c.states.length := fun j hj => by have := kid_gt h.toRight (kid_real hj).1; omega
  have f4 := many_con env c.states.length act (kidsL c (-1) true) (by omega) (by omega) hKm
  have fb := bad29_con env a1 a8 he (-1) (by omega)
  have hfl := flag_len c.states.length act
  unfold tabAV at f0 f1 f2 f3 ⊢
  refine con_of_body Tryz.func43 rfl Tryz.call43 (by rw [Tryz.ntmps43]; simp) ?_
  rw [Tryz.ntmps43, Tryz.results43]
  have F := chAV.eq_1
  repeat (first | refine st ?_ | refine cC f0 ?_ | refine cC f1 ?_)
  refine awp_loopH (D := Nat) (fun j vs => [(0, .ref 9 [tabCells c] 0 0), (1, .seq 1 (act.map intAV)), (5, .loc 5 (vs 5) 0 0), (6, .row 17 (vs 17)), (18, .seq 1 (act.map intAV)), (19, I act.length), (20, I j)]) (fun _ _ => [(5, ⟨5, [chAV c], 26, false⟩), (17, ⟨1, flagA c.states.length act, 4, true⟩)]) (fun j _ _ => j ≤ act.length ∧ ∀ m, m < j → lgAt c act m = true) (fun j => act.length - j) 0 ?_ ?_ ?_ ?_
  · exact ⟨Nat.zero_le _, fun m hm => absurd hm (by omega)⟩
  · (simp only [go_sem, F])
  · have F := chAV.eq_1
    (simp only [go_sem, F])
    try rfl
  rintro j ws esc ⟨hj, hall⟩
  by_cases hlt : j < act.length
  · obtain ⟨x, hx⟩ : ∃ x, act[j]? = some x := ⟨act[j], List.getElem?_eq_getElem hlt⟩
    have q1 := nlt hlt
    have q2 := wrap_succ hlt (by omega)
    have hat := lgAt_is (c := c) hx
    have fx := bad29g_con env a1 a8 he x
    have bad : lgAt c act j = false → chkE a1 c act = errV (max x (-1)) (sentV a1) := fun hb => chkE_bad (lgChk_badg hx hall hb)
    by_cases h0 : x < 0
    · rw [bad (by rw [hat, fitI_out (by unfold inZ; rw [decide_eq_false (by omega)]; rfl), Bool.and_false])]
      have F := And.intro hx <| And.intro q1 <| h0
      repeat (first | refine st ?_ | refine cC fx ?_)
      exact aR
    obtain ⟨k, rfl⟩ := nat_of (show 0 ≤ x by omega)
    by_cases h1 : (c.states.length : Int) ≤ k
    · rw [bad (by rw [hat, fitI_out (by unfold inZ; rw [decide_eq_false (p := (k : Int) < _) (by omega), Bool.and_false]), Bool.and_false])]
      have F := And.intro hx <| And.intro q1 <| And.intro h0 <| And.intro h1 <| hfl
      repeat (first | refine st ?_ | refine cC fx ?_)
      exact aR
    obtain ⟨s, hs⟩ : ∃ s, c.states[k]? = some s := ⟨c.states[k]'(by omega), List.getElem?_eq_getElem _⟩
    have f2 := f2 k s hs
    rw [fitI_nat hs] at hat
    by_cases hj0 : 0 < j
    · have q3 : (0 : Int) < (j : Int) := by omega
      have q4 : IntKind.i64.wrap ((j : Int) - 1) = ((j - 1 : Nat) : Int) := by rw [wrap_in (by omega) (by omega)]; omega
      have hy := prev_at hj0 hlt
      have q5 : ((j - 1 : Nat) : Int) < (act.length : Int) := by omega
      have b0 : (j == 0) = false := by simp; omega
      generalize act.getD (j - 1) 0 = y at *
      by_cases h2 : (k : Int) ≤ y
      · rw [bad (by rw [hat, b0, decide_eq_false (by omega)]; rfl)]
        have F := And.intro hx <| And.intro q1 <| And.intro h0 <| And.intro h1 <| And.intro hfl <| And.intro q3 <| And.intro q4 <| And.intro q5 <| And.intro hy <| h2
        repeat (first | refine st ?_ | refine cC fx ?_)
        exact aR
      cases hb : fitB c act k s with
      | false =>
        rw [hb] at f2 hat
        rw [bad (by rw [hat, Bool.and_false])]
        have F := And.intro chAV.eq_1 <| And.intro hx <| And.intro q1 <| And.intro h0 <| And.intro h1 <| And.intro hfl <| And.intro q3 <| And.intro q4 <| And.intro q5 <| And.intro hy <| h2
        repeat (first | refine st ?_ | refine cC f2 ?_ | refine cC fx ?_)
        exact aR
      | true =>
        rw [hb, b0, decide_eq_true (show y < (k : Int) by omega)] at hat
        rw [hb] at f2
        have F := And.intro chAV.eq_1 <| And.intro hx <| And.intro q1 <| And.intro q2 <| And.intro h0 <| And.intro h1 <| And.intro hfl <| And.intro q3 <| And.intro q4 <| And.intro q5 <| And.intro hy <| h2
        repeat (first | refine st ?_ | refine cC f2 ?_)
        refine ⟨j + 1, ⟨hlt, fun m hm => by rcases Nat.lt_succ_iff_lt_or_eq.1 hm with e | e; exact hall m e; rw [e]; exact hat⟩, ?_, ?_, by omega⟩
        · (simp only [go_sem, F])
        · have F := chAV.eq_1
          (simp only [go_sem, F])
    · have q3 : ¬ (0 : Int) < (j : Int) := by omega
      have b0 : (j == 0) = true := by simp; omega
      cases hb : fitB c act k s with
      | false =>
        rw [hb, b0] at hat
        rw [hb] at f2
        rw [bad (by rw [hat, Bool.and_false])]
        have F := And.intro chAV.eq_1 <| And.intro hx <| And.intro q1 <| And.intro h0 <| And.intro h1 <| And.intro hfl <| q3
        repeat (first | refine st ?_ | refine cC f2 ?_ | refine cC fx ?_)
        exact aR
      | true =>
        rw [hb, b0] at hat
        rw [hb] at f2
        have F := And.intro chAV.eq_1 <| And.intro hx <| And.intro q1 <| And.intro q2 <| And.intro h0 <| And.intro h1 <| And.intro hfl <| q3
        repeat (first | refine st ?_ | refine cC f2 ?_)
        refine ⟨j + 1, ⟨hlt, fun m hm => by rcases Nat.lt_succ_iff_lt_or_eq.1 hm with e | e; exact hall m e; rw [e]; exact hat⟩, ?_, ?_, by omega⟩
        · (simp only [go_sem, F])
        · have F := chAV.eq_1
          (simp only [go_sem, F])
  · obtain rfl : j = act.length := by omega
    have q1 : ¬ (act.length : Int) < (act.length : Int) := by omega
    have hc1 : lgChk c act = if manyI act (kidsL c (-1) true) = 1 then (0, -1) else (1, -1) := by
      unfold lgChk
      rw [firstBad_none hall]
    by_cases hm : manyI act (kidsL c (-1) true) = 1
    · rw [if_pos hm] at hc1
      rw [chkE_ok hc1]
      have hmi : ((manyI act (kidsL c (-1) true) : Nat) : Int) = 1 := by omega
      have F := And.intro q1 <| hmi
      repeat (first | refine st ?_ | refine cC f3 ?_ | refine cC f4 ?_)
      exact aR
    · rw [if_neg hm] at hc1
      rw [chkE_bad hc1]
      have hmi : (((manyI act (kidsL c (-1) true) : Nat) : Int) != 1) = true := by simp; omega
      have F := And.intro q1 <| hmi
      repeat (first | refine st ?_ | refine cC f3 ?_ | refine cC f4 ?_ | refine cC fb ?_)
      exact aR
theorem rCheck29g_con (env : Env) (c : ChD) (h : Full c) (act : List Int) (hl : act.length ≤ 1000000) : Con Tryz.prog env 55 [.agg (chAV c), .seq 1 (act.map intAV)] (.tuple [I (lgChk c act).1, I (lgChk c act).2]) := by
  have hlen := h.few
  have f3 := rKids_con env c (-1) true (by omega)
  have hK := kids_few h.toRight (-1) true
  have f4 := rMany_con env act (kidsL c (-1) true) hl (by omega)
  refine con_of_body Tryz.func55 rfl Tryz.call55 (by rw [Tryz.ntmps55]; simp) ?_
  rw [Tryz.ntmps55, Tryz.results55]
  have F := chAV.eq_1
  repeat refine st ?_
  refine awp_loopH (D := Nat) (fun j vs => [(1, .seq 1 (act.map intAV)), (2, .loc 2 (vs 2) 0 0), (6, I j)]) (fun _ _ => [(2, ⟨5, [chAV c], 26, false⟩)]) (fun j _ _ => j ≤ act.length ∧ ∀ m, m < j → lgAt c act m = true) (fun j => act.length - j) 0 ?_ ?_ ?_ ?_
  · exact ⟨Nat.zero_le _, fun m hm => absurd hm (by omega)⟩
  · (simp only [go_sem, F])
  · have F := chAV.eq_1
    (simp only [go_sem, F])
    try rfl
  rintro j ws esc ⟨hj, hall⟩
  by_cases hlt : j < act.length
  · obtain ⟨x, hx⟩ : ∃ x, act[j]? = some x := ⟨act[j], List.getElem?_eq_getElem hlt⟩
    have q1 := nlt hlt
    have q2 := wrap_succ hlt (by omega)
    have q6 : max x (-1) = if x < -1 then -1 else x := by split <;> omega
    have hat := lgAt_is (c := c) hx
    have f0 := rIs_con env c x
    have bad : lgAt c act j = false → lgChk c act = (1, max x (-1)) := fun hb => lgChk_badg hx hall hb
    cases hz : inZ c x with
    | false =>
      rw [hz] at f0
      rw [bad (by rw [hat, fitI_out hz, Bool.and_false])]
      have F := And.intro chAV.eq_1 <| And.intro hx <| And.intro q1 <| q6
      repeat (first | refine st ?_ | refine cC f0 ?_)
      exact aR
    | true =>
      rw [hz] at f0
      obtain ⟨k, s, rfl, hs, ha⟩ := at_in hz
      have f2 := rFits29_con env c h act hl k s hs
      rw [fitI_nat hs] at hat
      by_cases hj0 : 0 < j
      · have q3 : (0 : Int) < (j : Int) := by omega
        have q4 : IntKind.i64.wrap ((j : Int) - 1) = ((j - 1 : Nat) : Int) := by rw [wrap_in (by omega) (by omega)]; omega
        have hy := prev_at hj0 hlt
        have q5 : ((j - 1 : Nat) : Int) < (act.length : Int) := by omega
        have b0 : (j == 0) = false := by simp; omega
        generalize act.getD (j - 1) 0 = y at *
        by_cases h2 : (k : Int) ≤ y
        · rw [bad (by rw [hat, b0, decide_eq_false (by omega)]; rfl)]
          have F := And.intro chAV.eq_1 <| And.intro hx <| And.intro q1 <| And.intro q3 <| And.intro q4 <| And.intro q5 <| And.intro q6 <| And.intro hy <| h2
          repeat (first | refine st ?_ | refine cC f0 ?_)
          exact aR
        cases hb : fitB c act k s with
        | false =>
          rw [hb] at f2 hat
          rw [bad (by rw [hat, Bool.and_false])]
          have F := And.intro chAV.eq_1 <| And.intro hx <| And.intro q1 <| And.intro q3 <| And.intro q4 <| And.intro q5 <| And.intro q6 <| And.intro hy <| h2
          repeat (first | refine st ?_ | refine cC f0 ?_ | refine cC f2 ?_)
          exact aR
        | true =>
          rw [hb, b0, decide_eq_true (show y < (k : Int) by omega)] at hat
          rw [hb] at f2
          have F := And.intro chAV.eq_1 <| And.intro hx <| And.intro q1 <| And.intro q2 <| And.intro q3 <| And.intro q4 <| And.intro q5 <| And.intro hy <| h2
          repeat (first | refine st ?_ | refine cC f0 ?_ | refine cC f2 ?_)
          refine ⟨j + 1, ⟨hlt, fun m hm => by rcases Nat.lt_succ_iff_lt_or_eq.1 hm with e | e; exact hall m e; rw [e]; exact hat⟩, ?_, ?_, by omega⟩
          · (simp only [go_sem, F])
          · have F := chAV.eq_1
            (simp only [go_sem, F])
      · have q3 : ¬ (0 : Int) < (j : Int) := by omega
        have b0 : (j == 0) = true := by simp; omega
        cases hb : fitB c act k s with
        | false =>
          rw [hb, b0] at hat
          rw [hb] at f2
          rw [bad (by rw [hat, Bool.and_false])]
          have F := And.intro chAV.eq_1 <| And.intro hx <| And.intro q1 <| And.intro q3 <| q6
          repeat (first | refine st ?_ | refine cC f0 ?_ | refine cC f2 ?_)
          exact aR
        | true =>
          rw [hb, b0] at hat
          rw [hb] at f2
          have F := And.intro chAV.eq_1 <| And.intro hx <| And.intro q1 <| And.intro q2 <| q3
          repeat (first | refine st ?_ | refine cC f0 ?_ | refine cC f2 ?_)
          refine ⟨j + 1, ⟨hlt, fun m hm => by rcases Nat.lt_succ_iff_lt_or_eq.1 hm with e | e; exact hall m e; rw [e]; exact hat⟩, ?_, ?_, by omega⟩
          · (simp only [go_sem, F])
          · have F := chAV.eq_1
            (simp only [go_sem, F])
  · obtain rfl : j = act.length := by omega
    have q1 : ¬ (act.length : Int) < (act.length : Int) := by omega
    have hc1 : lgChk c act = if manyI act (kidsL c (-1) true) = 1 then (0, -1) else (1, -1) := by
      unfold lgChk
      rw [firstBad_none hall]
    rw [hc1]
    by_cases hm : manyI act (kidsL c (-1) true) = 1
    · rw [if_pos hm]
      have hmi : ((manyI act (kidsL c (-1) true) : Nat) : Int) = 1 := by omega
      have F := And.intro chAV.eq_1 <| And.intro q1 <| hmi
      repeat (first | refine st ?_ | refine cC f3 ?_ | refine cC f4 ?_)
      exact aR
    · rw [if_neg hm]
      have hmi : (((manyI act (kidsL c (-1) true) : Nat) : Int) != 1) = true := by simp; omega
      have F := And.intro chAV.eq_1 <| And.intro q1 <| hmi
      repeat (first | refine st ?_ | refine cC f3 ?_ | refine cC f4 ?_)
      exact aR
end Go.Proofs.YthffdneigmbgfaaGreatDoor
set_option linter.unusedSimpArgs false
namespace Go.Proofs.YthffdneigmbgfaaGreatDoor
open Go.RowKit
set_option maxRecDepth 100000
set_option maxHeartbeats 8000000
theorem lg_nats {c : ChD} {act : List Int} (h : lgB c act = true) : ∃ l : List Nat, act = zL l ∧ ∀ k ∈ l, k < c.states.length := by
  have h1 := (lg_iff.1 h).1
  have hr : ∀ x ∈ act, 0 ≤ x ∧ x < (c.states.length : Int) := fun x hx => by
    obtain ⟨n, hn, e⟩ := List.getElem_of_mem hx
    have := h1 n hn
    rw [lgAt_is (List.getElem?_eq_some_iff.2 ⟨hn, e⟩), Bool.and_eq_true] at this
    have h2 := this.2
    cases hz : inZ c x with
    | false => rw [fitI_out hz] at h2; cases h2
    | true => exact inZ_iff.1 hz
  refine ⟨act.map Int.toNat, ?_, fun k hk => ?_⟩
  · unfold zL
    rw [List.map_map]
    refine ((List.map_congr_left fun x hx => ?_).trans (List.map_id act)).symm
    have := hr x hx
    show ((x.toNat : Nat) : Int) = x
    omega
  · obtain ⟨x, hx, rfl⟩ := List.mem_map.1 hk
    have := hr x hx
    omega
def innP (c : ChD) (l : List Nat) (k : Nat) : Bool := manyI (zL l) (kidsL c k true) == 0
def innTo (c : ChD) (l : List Nat) (j : Nat) : List Nat := (l.take j).filter (innP c l)
def innL (c : ChD) (l : List Nat) : List Nat := sortL c (zL (innTo c l l.length))
theorem innTo_succ {c : ChD} {l : List Nat} {j k : Nat} (h : l[j]? = some k) : innTo c l (j + 1) = if innP c l k then innTo c l j ++ [k] else innTo c l j := by
  unfold innTo
  rw [List.take_add_one, h, List.filter_append]
  cases hb : innP c l k <;> simp [hb]
theorem innTo_len (c : ChD) (l : List Nat) (j : Nat) : (innTo c l j).length ≤ l.length := by
  unfold innTo
  exact Nat.le_trans (List.length_filter_le ..) (by rw [List.length_take]; omega)
theorem inner29_con (env : Env) (c : ChD) (h : Full c) (l : List Nat) (hl : l.length ≤ 1000) (hk : ∀ k ∈ l, k < c.states.length) : Con Tryz.prog env 96 [tabAV c, .seq 1 (l.map natAV)] (.own 3 1 ((innL c l).map natAV)) := by
  have hlen := h.few
  have f0 := flags_con env c (by omega) (zL l) (by rw [zL_len]; omega)
  rw [zL_int] at f0
  have f1 := fun k : Nat => tabReal_con env c h k
  have f2 := fun k : Nat => many_con env c.states.length (zL l) (kidsL c k true) (by omega) (by have := kids_few h.toRight k true; omega) (fun j hj => by have := kid_gt h.toRight (kid_real hj).1; omega)
  have f3 := tabTree_con env c
  have f4 := tsort_con env c h.toRight (zL (innTo c l l.length)) (by rw [zL_len]; have := innTo_len c l l.length; omega)
  rw [zL_int] at f4
  show Con _ _ _ _ (.own _ 1 ((sortL c (zL (innTo c l l.length))).map natAV))
  generalize sortL c (zL (innTo c l l.length)) = R at *
  unfold treeAV at f3 f4
  unfold tabAV at f0 f1 f3 ⊢
  generalize hFL : flagA c.states.length (zL l) = FL at *
  try clear hFL
  refine con_of_body Tryz.func96 rfl Tryz.call96 (by rw [Tryz.ntmps96]; simp) ?_
  rw [Tryz.ntmps96, Tryz.results96]
  repeat refine st0 ?_
  refine awp_nilrow 5 5 3 1 ?_
  refine awp_loopH (D := Nat) (fun j vs => [(0, .ref 9 [tabCells c] 0 0), (1, .seq 1 (l.map natAV)), (5, .row 5 (vs 5)), (8, .seq 1 (l.map natAV)), (9, I l.length), (10, I j)]) (fun j _ => [(5, ⟨1, (innTo c l j).map natAV, 3, true⟩)]) (fun j _ esc => j ≤ l.length ∧ esc 5 = false) (fun j => l.length - j) 0 ?_ ?_ ?_ ?_
  · exact ⟨Nat.zero_le _, rfl⟩
  · (simp only [go_sem])
  · (simp only [go_sem])
    try rfl
  rintro j ws esc ⟨hj, e0⟩
  by_cases hlt : j < l.length
  · obtain ⟨k, hx⟩ : ∃ k, l[j]? = some k := ⟨l[j], List.getElem?_eq_getElem hlt⟩
    have hkl := hk k (List.mem_of_getElem? hx)
    have q1 := nlt hlt
    have q2 := wrap_succ hlt (by omega)
    have f1 := f1 k
    rw [if_pos (.inr (inZ_nat.2 hkl))] at f1
    have f2 := f2 k
    have hle := innTo_len c l j
    have hf : Fits ((innTo c l j).length + 1) 8 := fits_small (by omega) (by omega)
    have hn := innTo_succ (c := c) hx
    have hp : innP c l k = (manyI (zL l) (kidsL c k true) == 0) := rfl
    cases hb : innP c l k with
    | true =>
      rw [hb, if_pos rfl] at hn
      rw [hb] at hp
      have b0 : (((manyI (zL l) (kidsL c k true) : Nat) : Int) == 0) = true := by
        have := beq_iff_eq.1 hp.symm
        simp; omega
      have F := And.intro natAV.eq_1 <| And.intro hx <| And.intro q1 <| And.intro q2 <| And.intro b0 <| And.intro hf <| e0
      repeat (first | refine st ?_ | refine cC f0 ?_ | refine cC f1 ?_ | refine cC f2 ?_)
      refine ⟨j + 1, ⟨hlt, by simp only [go_sem, e0]⟩, ?_, ?_, by omega⟩
      · (simp only [go_sem, F])
      · have F := And.intro natAV.eq_1 <| hn
        (simp only [go_sem, List.map_append, F])
    | false =>
      rw [hb, if_neg Bool.false_ne_true] at hn
      rw [hb] at hp
      have b0 : (((manyI (zL l) (kidsL c k true) : Nat) : Int) == 0) = false := by
        have : ¬ manyI (zL l) (kidsL c k true) = 0 := fun q => by rw [q] at hp; cases hp
        simp; omega
      have F := And.intro natAV.eq_1 <| And.intro hx <| And.intro q1 <| And.intro q2 <| And.intro b0 <| e0
      repeat (first | refine st ?_ | refine cC f0 ?_ | refine cC f1 ?_ | refine cC f2 ?_)
      refine ⟨j + 1, ⟨hlt, by simp only [go_sem, e0]⟩, ?_, ?_, by omega⟩
      · (simp only [go_sem, F])
      · have F := And.intro natAV.eq_1 <| hn
        (simp only [go_sem, F])
  · obtain rfl : j = l.length := by omega
    have q1 : ¬ (l.length : Int) < (l.length : Int) := by omega
    have F := And.intro q1 <| e0
    repeat (first | refine st ?_ | refine cC f3 ?_ | refine cC f4 ?_)
    exact aR
theorem rInner29_con (env : Env) (c : ChD) (h : Full c) (l : List Nat) (hl : l.length ≤ 1000) (hk : ∀ k ∈ l, k < c.states.length) : Con Tryz.prog env 56 [.agg (chAV c), .seq 1 (l.map natAV)] (.own 3 1 ((innL c l).map natAV)) := by
  have hlen := h.few
  have _u := hk
  have f1 := fun k : Nat => rKids_con env c k true (by omega)
  have f2 := fun k : Nat => rMany_con env (zL l) (kidsL c k true) (by rw [zL_len]; omega) (by have := kids_few h.toRight k true; omega)
  rw [zL_int] at f2
  have f4 := rSort_con env c h.toRight (innTo c l l.length) (by have := innTo_len c l l.length; omega)
  show Con _ _ _ _ (.own _ 1 ((sortL c (zL (innTo c l l.length))).map natAV))
  generalize sortL c (zL (innTo c l l.length)) = R at *
  refine con_of_body Tryz.func56 rfl Tryz.call56 (by rw [Tryz.ntmps56]; simp) ?_
  rw [Tryz.ntmps56, Tryz.results56]
  have F := chAV.eq_1
  repeat refine st ?_
  refine awp_loopH (D := Nat) (fun j vs => [(1, .seq 1 (l.map natAV)), (2, .loc 2 (vs 2) 0 0), (5, .row 7 (vs 7)), (6, I j)]) (fun j _ => [(2, ⟨5, [chAV c], 26, false⟩), (7, ⟨1, (innTo c l j).map natAV, 3, true⟩)]) (fun j _ esc => j ≤ l.length ∧ esc 7 = false) (fun j => l.length - j) 0 ?_ ?_ ?_ ?_
  · exact ⟨Nat.zero_le _, rfl⟩
  · (simp only [go_sem, F])
  · have F := chAV.eq_1
    (simp only [go_sem, F])
    try rfl
  rintro j ws esc ⟨hj, e0⟩
  by_cases hlt : j < l.length
  · obtain ⟨k, hx⟩ : ∃ k, l[j]? = some k := ⟨l[j], List.getElem?_eq_getElem hlt⟩
    have q1 := nlt hlt
    have q2 := wrap_succ hlt (by omega)
    have f1 := f1 k
    have f2 := f2 k
    have hle := innTo_len c l j
    have hf : Fits ((innTo c l j).length + 1) 8 := fits_small (by omega) (by omega)
    have hn := innTo_succ (c := c) hx
    have hp : innP c l k = (manyI (zL l) (kidsL c k true) == 0) := rfl
    cases hb : innP c l k with
    | true =>
      rw [hb, if_pos rfl] at hn
      rw [hb] at hp
      have b0 : (((manyI (zL l) (kidsL c k true) : Nat) : Int) == 0) = true := by
        have := beq_iff_eq.1 hp.symm
        simp; omega
      have F := And.intro chAV.eq_1 <| And.intro natAV.eq_1 <| And.intro hx <| And.intro q1 <| And.intro q2 <| And.intro b0 <| And.intro hf <| e0
      repeat (first | refine st ?_ | refine cC f1 ?_ | refine cC f2 ?_)
      refine ⟨j + 1, ⟨hlt, by simp only [go_sem, e0]⟩, ?_, ?_, by omega⟩
      · (simp only [go_sem, F])
      · have F := And.intro chAV.eq_1 <| And.intro natAV.eq_1 <| hn
        (simp only [go_sem, List.map_append, F])
    | false =>
      rw [hb, if_neg Bool.false_ne_true] at hn
      rw [hb] at hp
      have b0 : (((manyI (zL l) (kidsL c k true) : Nat) : Int) == 0) = false := by
        have : ¬ manyI (zL l) (kidsL c k true) = 0 := fun q => by rw [q] at hp; cases hp
        simp; omega
      have F := And.intro chAV.eq_1 <| And.intro natAV.eq_1 <| And.intro hx <| And.intro q1 <| And.intro q2 <| And.intro b0 <| e0
      repeat (first | refine st ?_ | refine cC f1 ?_ | refine cC f2 ?_)
      refine ⟨j + 1, ⟨hlt, by simp only [go_sem, e0]⟩, ?_, ?_, by omega⟩
      · (simp only [go_sem, F])
      · have F := And.intro chAV.eq_1 <| And.intro natAV.eq_1 <| hn
        (simp only [go_sem, F])
  · obtain rfl : j = l.length := by omega
    have q1 : ¬ (l.length : Int) < (l.length : Int) := by omega
    have F := And.intro chAV.eq_1 <| And.intro q1 <| e0
    repeat (first | refine st ?_ | refine cC f4 ?_)
    exact aR
theorem pInner_ok (env : Env) (a1 a8 : Addr) (he : ChEnv env a1 a8) (c : ChD) (h : Full c) (hsm : Small c) (l : List Nat) (hl : l.length ≤ 1000) (hk : ∀ k ∈ l, k < c.states.length) (hb : lgB c (zL l) = true) : Con Tryz.prog env 51 [tabAV c, .seq 1 (l.map natAV)] (.tuple [.seq 1 ((innL c l).map natAV), nilE]) := by
  have f0 := check29g_con env a1 a8 he c h hsm (zL l) (by rw [zL_len]; omega)
  unfold chkE at f0
  rw [if_pos hb, zL_int] at f0
  have f1 := inner29_con env c h l hl hk
  unfold tabAV at f0 f1 ⊢
  generalize innL c l = R at *
  refine con_of_body Tryz.func51 rfl Tryz.call51 (by rw [Tryz.ntmps51]; simp) ?_
  rw [Tryz.ntmps51, Tryz.results51]
  repeat (first | refine st0 ?_ | refine cC0 f0 ?_ | refine cC0 f1 ?_)
  exact aR0
theorem pInner_bad (env : Env) (a1 a8 : Addr) (he : ChEnv env a1 a8) (c : ChD) (h : Full c) (hsm : Small c) (act : List Int) (hl : act.length ≤ 1000000) (hb : lgB c act = false) : Con Tryz.prog env 51 [tabAV c, .seq 1 (act.map intAV)] (.tuple [nilS, errV (-1) (errV (lgChk c act).2 (sentV a1))]) := by
  have f0 := check29g_con env a1 a8 he c h hsm act hl
  unfold chkE at f0
  rw [if_neg (by rw [hb]; simp)] at f0
  have f1 := wrap_con env [108, 101, 103, 97, 108, 46, 73, 110, 110, 101, 114] (lgChk c act).2 (sentV a1)
  generalize (lgChk c act).2 = P at *
  unfold tabAV at f0 ⊢
  refine con_of_body Tryz.func51 rfl Tryz.call51 (by rw [Tryz.ntmps51]; simp) ?_
  rw [Tryz.ntmps51, Tryz.results51]
  repeat (first | refine st0 ?_ | refine cC0 f0 ?_ | refine cC0 f1 ?_)
  exact aR0
def nameAt (c : ChD) (k : Nat) : List UInt8 := match c.states[k]? with
  | some s => s.name
  | none => []
theorem inn_real {c : ChD} (h : Full c) {l : List Nat} {k : Nat} (hk : k ∈ innL c l) : k < c.states.length := by
  unfold innL sortL at hk
  split at hk
  · exact (walk_top h.toRight k).1 (List.mem_filter.1 hk).1
  · simp at hk
theorem inn_len {c : ChD} (h : Full c) (l : List Nat) : (innL c l).length ≤ 32 := by
  have hf := h.few
  have := (sort_nodup h.toRight (zL (innTo c l l.length))).length_le_of_subset (l₂ := List.range c.states.length) fun m hm => List.mem_range.2 (inn_real (l := l) h hm)
  simp at this
  show (sortL c (zL (innTo c l l.length))).length ≤ 32
  omega
theorem pNames_ok (env : Env) (a1 a8 : Addr) (he : ChEnv env a1 a8) (c : ChD) (h : Full c) (hsm : Small c) (l : List Nat) (hl : l.length ≤ 1000) (hk : ∀ k ∈ l, k < c.states.length) (hb : lgB c (zL l) = true) : Con Tryz.prog env 53 [tabAV c, .seq 1 (l.map natAV)] (.tuple [.seq 1 ((innL c l).map fun k => strAV (nameAt c k)), nilE]) := by
  have hlen := h.few
  have f0 := pInner_ok env a1 a8 he c h hsm l hl hk hb
  have f1 := tabChart_con env c hsm
  have hR : ∀ k ∈ innL c l, k < c.states.length := fun k hk => inn_real h hk
  have hRl := inn_len h l
  unfold tabAV at f0 f1 ⊢
  generalize innL c l = R at *
  refine con_of_body Tryz.func53 rfl Tryz.call53 (by rw [Tryz.ntmps53]; simp) ?_
  rw [Tryz.ntmps53, Tryz.results53]
  have F := chAV.eq_1
  repeat (first | refine st ?_ | refine cC f0 ?_ | refine cC f1 ?_)
  refine awp_nilrow 8 8 9 1 ?_
  refine awp_loopH (D := Nat) (fun j vs => [(8, .row 8 (vs 8)), (9, .loc 9 (vs 9) 0 0), (24, .seq 1 (R.map natAV)), (25, I R.length), (26, I j)]) (fun j _ => [(8, ⟨1, (R.take j).map fun k => strAV (nameAt c k), 9, true⟩), (9, ⟨5, [chAV c], 26, false⟩)]) (fun j _ esc => j ≤ R.length ∧ esc 8 = false) (fun j => R.length - j) 0 ?_ ?_ ?_ ?_
  · exact ⟨Nat.zero_le _, rfl⟩
  · (simp only [go_sem, F])
  · have F := chAV.eq_1
    (simp only [go_sem, F])
    try rfl
  rintro j ws esc ⟨hj, e0⟩
  by_cases hlt : j < R.length
  · obtain ⟨k, hx⟩ : ∃ k, R[j]? = some k := ⟨R[j], List.getElem?_eq_getElem hlt⟩
    have hkl := hR k (List.mem_of_getElem? hx)
    obtain ⟨s, hs⟩ : ∃ s, c.states[k]? = some s := ⟨c.states[k], List.getElem?_eq_getElem hkl⟩
    have q0 := nlt hkl
    have q1 := nlt hlt
    have q2 := wrap_succ hlt (by omega)
    have hf : Fits ((R.take j).length + 1) 16 := fits_small (by rw [List.length_take]; omega) (by omega)
    have hnm : nameAt c k = s.name := by unfold nameAt; rw [hs]
    have hn : (R.take (j + 1)).map (fun k => strAV (nameAt c k)) = (R.take j).map (fun k => strAV (nameAt c k)) ++ [[Sg s.name]] := by
      rw [List.take_add_one, hx, List.map_append]
      simp only [Option.toList_some, List.map_cons, List.map_nil, hnm]
      rfl
    have hlt2 : ((R.take j).map (fun k => strAV (nameAt c k))).length = (R.take j).length := List.length_map ..
    generalize hA : (R.take j).map (fun k => strAV (nameAt c k)) = A at *
    have hf2 : Fits (A.length + 1) 16 := by rw [hlt2]; exact hf
    have F := And.intro chAV.eq_1 <| And.intro stAV.eq_1 <| And.intro natAV.eq_1 <| And.intro hx <| And.intro hs <| And.intro q0 <| And.intro q1 <| And.intro q2 <| And.intro hf2 <| e0
    repeat refine st ?_
    refine ⟨j + 1, ⟨hlt, by simp only [go_sem, e0]⟩, ?_, ?_, by omega⟩
    · (simp only [go_sem, F])
    · have F := And.intro chAV.eq_1 <| hn
      (simp only [go_sem, F])
  · obtain rfl : j = R.length := by omega
    have q1 : ¬ (R.length : Int) < (R.length : Int) := by omega
    have hta : R.take R.length = R := List.take_length
    have F := And.intro q1 <| And.intro hta <| e0
    repeat refine st ?_
    exact aR
theorem pNames_bad (env : Env) (a1 a8 : Addr) (he : ChEnv env a1 a8) (c : ChD) (h : Full c) (hsm : Small c) (act : List Int) (hl : act.length ≤ 1000000) (hb : lgB c act = false) : Con Tryz.prog env 53 [tabAV c, .seq 1 (act.map intAV)] (.tuple [nilS, errV (-1) (errV (-1) (errV (lgChk c act).2 (sentV a1)))]) := by
  have f0 := pInner_bad env a1 a8 he c h hsm act hl hb
  have f1 := wrap_con env [108, 101, 103, 97, 108, 46, 78, 97, 109, 101, 115] (-1) (errV (lgChk c act).2 (sentV a1))
  generalize (lgChk c act).2 = P at *
  unfold tabAV at f0 ⊢
  refine con_of_body Tryz.func53 rfl Tryz.call53 (by rw [Tryz.ntmps53]; simp) ?_
  rw [Tryz.ntmps53, Tryz.results53]
  repeat (first | refine st0 ?_ | refine cC0 f0 ?_ | refine cC0 f1 ?_)
  exact aR0
end Go.Proofs.YthffdneigmbgfaaGreatDoor
set_option linter.unusedSimpArgs false
namespace Go.Proofs.YthffdneigmbgfaaGreatDoor
open Go.RowKit
set_option maxRecDepth 100000
set_option maxHeartbeats 8000000
abbrev nilP : AV := .lit (.pointer none)
theorem tree_nil (env : Env) : Con Tryz.prog env 58 [nilP] nilP := by
  refine con_of_body Tryz.func58 rfl Tryz.call58 (by rw [Tryz.ntmps58]; simp) ?_
  rw [Tryz.ntmps58, Tryz.results58]
  repeat refine st0 ?_
  exact aR0
theorem len_nil (env : Env) : Con Tryz.prog env 66 [nilP] (I 0) := by
  refine con_of_body Tryz.func66 rfl Tryz.call66 (by rw [Tryz.ntmps66]; simp) ?_
  rw [Tryz.ntmps66, Tryz.results66]
  repeat refine st0 ?_
  exact aR0
theorem flags_nil (env : Env) (act : List Int) (hl : act.length ≤ 9223372036854775807) : Con Tryz.prog env 54 [nilP, .seq 1 (act.map intAV)] (.own 4 1 []) := by
  have f0 := tree_nil env
  have f1 := len_nil env
  refine con_of_body Tryz.func54 rfl Tryz.call54 (by rw [Tryz.ntmps54]; simp) ?_
  rw [Tryz.ntmps54, Tryz.results54]
  repeat (first | refine st0 ?_ | refine cC0 f0 ?_ | refine cC0 f1 ?_)
  refine awp_loopH (D := Nat) (fun j vs => [(5, .row 11 (vs 11)), (12, .seq 1 (act.map intAV)), (13, I act.length), (14, I j)]) (fun _ _ => [(11, ⟨1, [], 4, true⟩)]) (fun j _ esc => j ≤ act.length ∧ esc 11 = false) (fun j => act.length - j) 0 ?_ ?_ ?_ ?_
  · exact ⟨Nat.zero_le _, rfl⟩
  · (simp only [go_sem])
  · (simp only [go_sem])
    try rfl
  rintro j ws esc ⟨hj, e0⟩
  by_cases hlt : j < act.length
  · obtain ⟨x, hx⟩ : ∃ x, act[j]? = some x := ⟨act[j], List.getElem?_eq_getElem hlt⟩
    have q1 := nlt hlt
    have q2 := wrap_succ hlt (by omega)
    by_cases h0 : 0 ≤ x
    · have h1 : ¬ x < 0 := by omega
      have F := And.intro hx <| And.intro q1 <| And.intro q2 <| And.intro h0 <| And.intro h1 <| e0
      repeat refine st ?_
      refine ⟨j + 1, ⟨hlt, by simp only [go_sem, e0]⟩, ?_, ?_, by omega⟩
      · (simp only [go_sem, F])
      · (simp only [go_sem, F])
    · have F := And.intro hx <| And.intro q1 <| And.intro q2 <| And.intro h0 <| e0
      repeat refine st ?_
      refine ⟨j + 1, ⟨hlt, by simp only [go_sem, e0]⟩, ?_, ?_, by omega⟩
      · (simp only [go_sem, F])
      · (simp only [go_sem, F])
  · obtain rfl : j = act.length := by omega
    have q1 : ¬ (act.length : Int) < (act.length : Int) := by omega
    have F := And.intro q1 <| e0
    repeat refine st ?_
    exact aR
theorem check_nil (env : Env) (a : Addr) (h7 : env 0 = some (sentV a)) (X : AV) : Con Tryz.prog env 43 [nilP, X] (errV (-1) (sentV a)) := by
  have g1 := gt_at h7
  have f1 := new_con env [108, 101, 103, 97, 108, 46, 67, 104, 101, 99, 107] a
  refine con_of_body Tryz.func43 rfl Tryz.call43 (by rw [Tryz.ntmps43]; simp) ?_
  rw [Tryz.ntmps43, Tryz.results43]
  have F := g1
  repeat (first | refine st ?_ | refine cC f1 ?_)
  exact aR
theorem inner_nil (env : Env) (a : Addr) (h7 : env 0 = some (sentV a)) (act : List Int) : Con Tryz.prog env 51 [nilP, .seq 1 (act.map intAV)] (.tuple [nilS, errV (-1) (errV (-1) (sentV a))]) := by
  have f0 := check_nil env a h7 (.seq 1 (act.map intAV))
  have f1 := wrap_con env [108, 101, 103, 97, 108, 46, 73, 110, 110, 101, 114] (-1) (sentV a)
  refine con_of_body Tryz.func51 rfl Tryz.call51 (by rw [Tryz.ntmps51]; simp) ?_
  rw [Tryz.ntmps51, Tryz.results51]
  repeat (first | refine st0 ?_ | refine cC0 f0 ?_ | refine cC0 f1 ?_)
  exact aR0
theorem done_nil (env : Env) (a : Addr) (h7 : env 0 = some (sentV a)) (act : List Int) (x : Int) : Con Tryz.prog env 52 [nilP, .seq 1 (act.map intAV), I x] (.tuple [B false, errV (-1) (errV (-1) (sentV a))]) := by
  have f0 := check_nil env a h7 (.seq 1 (act.map intAV))
  have f1 := wrap_con env [108, 101, 103, 97, 108, 46, 68, 111, 110, 101] (-1) (sentV a)
  refine con_of_body Tryz.func52 rfl Tryz.call52 (by rw [Tryz.ntmps52]; simp) ?_
  rw [Tryz.ntmps52, Tryz.results52]
  repeat (first | refine st0 ?_ | refine cC0 f0 ?_ | refine cC0 f1 ?_)
  exact aR0
theorem number_nil (env : Env) (a : Addr) (h7 : env 0 = some (sentV a)) (act : List Int) : Con Tryz.prog env 50 [nilP, .seq 1 (act.map intAV)] (.tuple [I 0, errV (-1) (errV (-1) (sentV a))]) := by
  have f0 := check_nil env a h7 (.seq 1 (act.map intAV))
  have f1 := wrap_con env [108, 101, 103, 97, 108, 46, 78, 117, 109, 98, 101, 114] (-1) (sentV a)
  refine con_of_body Tryz.func50 rfl Tryz.call50 (by rw [Tryz.ntmps50]; simp) ?_
  rw [Tryz.ntmps50, Tryz.results50]
  repeat (first | refine st0 ?_ | refine cC0 f0 ?_ | refine cC0 f1 ?_)
  exact aR0
theorem names_nil (env : Env) (a : Addr) (h7 : env 0 = some (sentV a)) (act : List Int) : Con Tryz.prog env 53 [nilP, .seq 1 (act.map intAV)] (.tuple [nilS, errV (-1) (errV (-1) (errV (-1) (sentV a)))]) := by
  have f0 := inner_nil env a h7 act
  have f1 := wrap_con env [108, 101, 103, 97, 108, 46, 78, 97, 109, 101, 115] (-1) (errV (-1) (sentV a))
  refine con_of_body Tryz.func53 rfl Tryz.call53 (by rw [Tryz.ntmps53]; simp) ?_
  rw [Tryz.ntmps53, Tryz.results53]
  repeat (first | refine st0 ?_ | refine cC0 f0 ?_ | refine cC0 f1 ?_)
  exact aR0
theorem nth_nil (env : Env) (a : Addr) (h7 : env 0 = some (sentV a)) (x : Int) : Con Tryz.prog env 45 [nilP, I x] (.tuple [nilS, errV (-1) (sentV a)]) := by
  have g1 := gt_at h7
  have f1 := new_con env [108, 101, 103, 97, 108, 46, 78, 116, 104] a
  refine con_of_body Tryz.func45 rfl Tryz.call45 (by rw [Tryz.ntmps45]; simp) ?_
  rw [Tryz.ntmps45, Tryz.results45]
  have F := g1
  repeat (first | refine st ?_ | refine cC f1 ?_)
  exact aR
theorem first_nil (env : Env) (a : Addr) (h7 : env 0 = some (sentV a)) : Con Tryz.prog env 40 [nilP] (.tuple [nilS, errV (-1) (sentV a)]) := by
  have g1 := gt_at h7
  have f1 := new_con env [108, 101, 103, 97, 108, 46, 70, 105, 114, 115, 116] a
  refine con_of_body Tryz.func40 rfl Tryz.call40 (by rw [Tryz.ntmps40]; simp) ?_
  rw [Tryz.ntmps40, Tryz.results40]
  have F := g1
  repeat (first | refine st ?_ | refine cC f1 ?_)
  exact aR
theorem count_nil (env : Env) : Con Tryz.prog env 46 [nilP] (I 0) := by
  refine con_of_body Tryz.func46 rfl Tryz.call46 (by rw [Tryz.ntmps46]; simp) ?_
  rw [Tryz.ntmps46, Tryz.results46]
  repeat refine st0 ?_
  exact aR0
theorem lawLegalNil_con (ad : Nat → Addr) (c : ChD) (hcf : few_ch c) (act : List Int) (hl : act.length ≤ 9223372036854775807) (x : Int) : Con Tryz.prog (errEnv ad lgMore) 12 [.agg (chAV c), .seq 1 (act.map intAV), I x] (B true) := by
  have he := lgEnv_ch ad
  have hT := lgEnv_tab ad
  have h7 : errEnv ad lgMore 0 = some (sentV (ad 7)) := rfl
  have t1 := tells29c_con ad lgMore 7 (by omega) (-1) []
  have t2 := tells29c_con ad lgMore 7 (by omega) (-1) [-1]
  have t3 := tells29c_con ad lgMore 7 (by omega) (-1) [-1, -1]
  have t4 := fun P => tells29c_con ad lgMore 1 (by omega) (-1) [-1, P]
  change Con _ _ _ [errV (-1) (sentV (ad 7)), I 7] _ at t1
  change Con _ _ _ [errV (-1) (errV (-1) (sentV (ad 7))), I 7] _ at t2
  change Con _ _ _ [errV (-1) (errV (-1) (errV (-1) (sentV (ad 7)))), I 7] _ at t3
  change ∀ P, Con _ _ _ [errV (-1) (errV (-1) (errV P (sentV (ad 1)))), I 1] _ at t4
  generalize errEnv ad lgMore = env at *
  have fa := awake29_con env _ _ he hT
  have fr := rests29_con env c
  have n1 := check_nil env _ h7 (.seq 1 (act.map intAV))
  have n2 := inner_nil env _ h7 act
  have n3 := done_nil env _ h7 act x
  have n4 := nth_nil env _ h7 x
  have n5 := number_nil env _ h7 act
  have n6 := first_nil env _ h7
  have n7 := names_nil env _ h7 act
  have n8 := count_nil env
  have n9 := flags_nil env act hl
  cases hg : goodB c with
  | false =>
    rw [hg] at fr
    have fm := made29_none env c hg
    refine con_of_body Tryz.func12 rfl Tryz.call12 (by rw [Tryz.ntmps12]; simp) ?_
    rw [Tryz.ntmps12, Tryz.results12]
    have F := chAV.eq_1
    repeat (first | refine st ?_ | refine cC n1 ?_ | refine cC n2 ?_ | refine cC n3 ?_ | refine cC n4 ?_ | refine cC n5 ?_ | refine cC n6 ?_ | refine cC n7 ?_ | refine cC n8 ?_ | refine cC n9 ?_ | refine cC t1 ?_ | refine cC t2 ?_ | refine cC t3 ?_ | refine cC fm ?_ | refine cC fr ?_ | refine cC fa ?_)
    exact aR
  | true =>
    have h := good_full hg
    have hlen := h.few
    have hsm := small_of (good_chk hg)
    have fm := made29_con env _ _ he hT c hcf hg
    by_cases h60 : 60 < act.length
    · have g6 : (60 : Int) < (act.length : Int) := by omega
      unfold tabAV at fm
      refine con_of_body Tryz.func12 rfl Tryz.call12 (by rw [Tryz.ntmps12]; simp) ?_
      rw [Tryz.ntmps12, Tryz.results12]
      have F := And.intro chAV.eq_1 <| g6
      repeat (first | refine st ?_ | refine cC n1 ?_ | refine cC n2 ?_ | refine cC n3 ?_ | refine cC n4 ?_ | refine cC n5 ?_ | refine cC n6 ?_ | refine cC n7 ?_ | refine cC n8 ?_ | refine cC n9 ?_ | refine cC t1 ?_ | refine cC t2 ?_ | refine cC t3 ?_ | refine cC fm ?_ | refine cC fr ?_ | refine cC fa ?_)
      exact aR
    · have g6 : ¬ (60 : Int) < (act.length : Int) := by omega
      have f6 := rCheck29g_con env c h act (by omega)
      cases hb : lgB c act with
      | false =>
        have f5 := pNames_bad env _ _ he c h hsm act (by omega) hb
        have hc1 : (lgChk c act).1 = 1 := by rw [lg_code, hb]; rfl
        rw [hc1] at f6
        have t4 := t4 (lgChk c act).2
        generalize (lgChk c act).2 = P at *
        unfold tabAV at fm f5
        refine con_of_body Tryz.func12 rfl Tryz.call12 (by rw [Tryz.ntmps12]; simp) ?_
        rw [Tryz.ntmps12, Tryz.results12]
        have F := And.intro chAV.eq_1 <| g6
        repeat (first | refine st ?_ | refine cC n1 ?_ | refine cC n2 ?_ | refine cC n3 ?_ | refine cC n4 ?_ | refine cC n5 ?_ | refine cC n6 ?_ | refine cC n7 ?_ | refine cC n8 ?_ | refine cC n9 ?_ | refine cC t1 ?_ | refine cC t2 ?_ | refine cC t3 ?_ | refine cC fm ?_ | refine cC fr ?_ | refine cC fa ?_ | refine cC f5 ?_ | refine cC f6 ?_ | refine cC t4 ?_)
        exact aR
      | true =>
        obtain ⟨l, rfl, hk⟩ := lg_nats hb
        have hc1 : (lgChk c (zL l)).1 = 0 := by rw [lg_code, hb]; rfl
        rw [hc1] at f6
        rw [zL_len] at h60 g6
        have f5 := pNames_ok env _ _ he c h hsm l (by omega) hk hb
        have f7 := rInner29_con env c h l (by omega) hk
        have hR : ∀ k ∈ innL c l, k < c.states.length := fun k hk => inn_real h hk
        have hRl := inn_len h l
        rw [zL_int] at n1 n2 n3 n5 n7 n9 f6 ⊢
        generalize (lgChk c (zL l)).2 = P at *
        generalize innL c l = R at *
        unfold tabAV at fm f5
        refine con_of_body Tryz.func12 rfl Tryz.call12 (by rw [Tryz.ntmps12]; simp) ?_
        rw [Tryz.ntmps12, Tryz.results12]
        have F := And.intro chAV.eq_1 <| g6
        repeat (first | refine st ?_ | refine cC n1 ?_ | refine cC n2 ?_ | refine cC n3 ?_ | refine cC n4 ?_ | refine cC n5 ?_ | refine cC n6 ?_ | refine cC n7 ?_ | refine cC n8 ?_ | refine cC n9 ?_ | refine cC t1 ?_ | refine cC t2 ?_ | refine cC t3 ?_ | refine cC fm ?_ | refine cC fr ?_ | refine cC fa ?_ | refine cC f5 ?_ | refine cC f6 ?_ | refine cC f7 ?_)
        refine awp_loopH (D := Nat) (fun j vs => [(3, .loc 3 (vs 3) 0 0), (21, .seq 1 (R.map fun k => strAV (nameAt c k))), (25, .row 147 (vs 147)), (26, I j)]) (fun _ _ => [(3, ⟨5, [chAV c], 26, false⟩), (147, ⟨1, R.map natAV, 3, true⟩)]) (fun j _ _ => j ≤ R.length) (fun j => R.length - j) 0 ?_ ?_ ?_ ?_
        · exact Nat.zero_le _
        · (simp only [go_sem, F])
        · have F := chAV.eq_1
          (simp only [go_sem, F])
          try rfl
        rintro j ws esc hj
        by_cases hlt : j < R.length
        · obtain ⟨k, hx⟩ : ∃ k, R[j]? = some k := ⟨R[j], List.getElem?_eq_getElem hlt⟩
          have hkl := hR k (List.mem_of_getElem? hx)
          obtain ⟨s, hs⟩ : ∃ s, c.states[k]? = some s := ⟨c.states[k], List.getElem?_eq_getElem hkl⟩
          have q0 := nlt hkl
          have q1 := nlt hlt
          have q2 := wrap_succ hlt (by omega)
          have hnm : nameAt c k = s.name := by unfold nameAt; rw [hs]
          have F := And.intro chAV.eq_1 <| And.intro stAV.eq_1 <| And.intro natAV.eq_1 <| And.intro strAV.eq_1 <| And.intro hx <| And.intro hs <| And.intro q0 <| And.intro q1 <| And.intro q2 <| hnm
          repeat refine st ?_
          refine ⟨j + 1, hlt, ?_, ?_, by omega⟩
          · (simp only [go_sem, F])
          · have F := chAV.eq_1
            (simp only [go_sem, F])
        · obtain rfl : j = R.length := by omega
          have q1 : ¬ (R.length : Int) < (R.length : Int) := by omega
          have F := q1
          repeat (first | refine st ?_ | refine cC fa ?_)
          exact aR
end Go.Proofs.YthffdneigmbgfaaGreatDoor
set_option linter.unusedSimpArgs false
namespace Go.Proofs.YthffdneigmbgfaaGreatDoor
open Go.RowKit Go.ChangeShapes Go.WideShapes Go.ChangeAt
set_option maxRecDepth 100000
section
variable {H : Type} {enc : TypeId × Value → H} {w : World} {base : Nat} {spare : Nat → Bool} {held : Bool}
theorem open_int1 (m : Nat) (cs : List Value) (y : DataW H × List MemPlace) (h : DataW.trod enc Tryz.prog w base spare held m 3 cs = some y) : ∃ a : Int, RE w intAV (fun _ => True) cs a := by
  obtain ⟨n, rfl, -, -⟩ := DataW.trod_int Tryz.underlying3 h
  exact ⟨n, ⟨⟨rfl, .lit _⟩, trivial⟩, trivial⟩
theorem open_intsV {r0 : Reach} {b0 : Nat} {v : Value} {d : DataW H} {p : List MemPlace} (hv : Value.okWide Tryz.prog w r0 b0 32 v) (h : DataW.Trod enc Tryz.prog w base spare held 32 v d p) :
    ∃ act : List Int, act.length ≤ 9223372036854775807 ∧ RV (fun b _ => b < w.heap.size) w v (.seq 1 (act.map intAV)) := by
  obtain ⟨A, n, c, rfl⟩ := okWide_slice Tryz.underlying32 hv
  obtain ⟨fuel, hf⟩ := h
  obtain ⟨v', l, e, r, hn, -⟩ := open_rows (size := 1) intAV (fun _ => True) (fun _ => rfl) Tryz.underlying32 c_int (by decide) open_int1 hf
  have e2 : Value.slice A n c = v' := by
    have : [Value.slice A n c] = [v'] := e
    cases this
    rfl
  subst e2
  exact ⟨l, max63 hn, r.2⟩
end
end Go.Proofs.YthffdneigmbgfaaGreatDoor
