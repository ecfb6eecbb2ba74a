/- What is remembered when states are left, plain: as the program says and as the document says. No program is named here. -/
import Derived.Test.YtlmekdfleciejaaGreatDoorG1
import Derived.Test.YtlmekdfleciejaaGreatDoorG3
import Derived.Test.YtlmekdfleciejaaGreatDoorM8
import Derived.Test.YtlmekdfleciejaaGreatDoorG5
import Derived.Test.YtlmekdfleciejaaGreatDoorG2
set_option linter.unusedSimpArgs false
namespace Go.Proofs.YtlmekdfleciejaaGreatDoor
open Go.RowKit
set_option maxRecDepth 100000
set_option maxHeartbeats 8000000
def chainV (ps : List Int) (e : AV) : AV := ps.foldr (fun p x => errV p x) e
theorem chain_at {S : Nat → Nat → Prop} {w : World} {a : Addr} (ha : Lies w a) : ∀ (ps : List Int) (v : Value), RV S w v (chainV ps (sentV a)) → ErrAt w a ps.length v
  | [], v, h => ⟨h.lit_inv, ha⟩
  | p :: ps, v, h => by
    have h : RV S w v (.iface 120 (.ref 3 [[.any, I p, chainV ps (sentV a)]] 0 0)) := h
    cases h with
    | iface t v c h =>
      cases h with
      | ref sz es i off b o u hz hc hr =>
        have h2 := hc 0 2 (chainV ps (sentV a)) rfl
        have h3 := hr 0 2 (chainV ps (sentV a)) rfl
        refine ⟨b, o + (0 * 3 + 0), u 0 2, rfl, ?_, chain_at ha ps _ h3⟩
        have := h2.2.1
        simpa using this
theorem code_chain (ad : Nat → Addr) (mo : More) (k : Nat) (hk : 1 ≤ k ∧ k ≤ 9) (ps : List Int) : Con Tryz.prog (errEnv ad mo) 97 [chainV ps (sentV (ad k))] (I k) :=
  con_lit Tryz.call97 fun w S vs hE hl hv => by
    match vs, hl with
    | [v], _ =>
      have hS : Sents w ad := hE.inv.1
      refine (code_any hS k hk ps.length v (chain_at (sents_lies hS k hk) ps v (hv 0 v _ rfl rfl))).mono ?_
      rintro e w' ⟨rfl, rfl⟩
      exact ⟨rfl, Below.refl _ _⟩
theorem wrap_con (env : Env) (s : List UInt8) (p : Int) (e : AV) : Con Tryz.prog env 88 [Sg s, errV p e] (errV (-1) (errV p e)) := by
  refine con_of_body_w Tryz.func88 rfl Tryz.call88 (by rw [Tryz.ntmps88]; simp) ?_
  rw [Tryz.ntmps88, Tryz.results88]
  repeat refine st0 ?_
  (refine awp_ret ?_; refine ⟨_, (by show (resRd _ _ _).run _ = some _; simp only [go_sem]; rfl), ?_⟩)
  exact errV_str2 _ _ _ rfl _ _ (.refl _)
theorem fAtg_con (env : Env) (s : List UInt8) (p : Int) (a : Addr) : Con Tryz.prog env 213 [Sg s, I p, sentV a] (errV (max p (-1)) (sentV a)) := by
  refine Con.args (cs := [Sg s, I p, .iface 261 (.lit (.pointer (some a)))]) ?_ (.cons (.refl _) (.cons (.refl _) (.cons (.ifl _ _) .nil)))
  by_cases h1 : p < -1
  · rw [show max p (-1) = -1 by omega]
    refine con_of_body_w Tryz.func213 rfl Tryz.call213 (by rw [Tryz.ntmps213]; simp) ?_
    rw [Tryz.ntmps213, Tryz.results213]
    have F := h1
    repeat refine st ?_
    (refine awp_ret ?_; refine ⟨_, (by show (resRd _ _ _).run _ = some _; simp only [go_sem, F]; rfl), ?_⟩)
    exact errV_str2 _ _ _ rfl _ _ (.lfi _ _)
  · rw [show max p (-1) = p by omega]
    refine con_of_body_w Tryz.func213 rfl Tryz.call213 (by rw [Tryz.ntmps213]; simp) ?_
    rw [Tryz.ntmps213, Tryz.results213]
    have F := h1
    repeat refine st ?_
    (refine awp_ret ?_; refine ⟨_, (by show (resRd _ _ _).run _ = some _; simp only [go_sem, F]; rfl), ?_⟩)
    exact errV_str2 _ _ _ rfl _ _ (.lfi _ _)
theorem bad29g_con (env : Env) (a1 a8 : Addr) (he : ChEnv env a1 a8) (p : Int) : Con Tryz.prog env 172 [I p] (errV (max p (-1)) (sentV a1)) := by
  have g1 := gt_at he.e1
  have f0 := fAtg_con env [108, 101, 103, 97, 108, 46, 67, 104, 101, 99, 107] p a1
  refine con_of_body Tryz.func172 rfl Tryz.call172 (by rw [Tryz.ntmps172]; simp) ?_
  rw [Tryz.ntmps172, Tryz.results172]
  have F := g1
  repeat (first | refine st ?_ | refine cC f0 ?_)
  exact aR
theorem lgChk_badg {c : ChD} {act : List Int} {j : Nat} {x : Int} (hx : act[j]? = some x) (hall : ∀ m, m < j → lgAt c act m = true) (hb : lgAt c act j = false) : lgChk c act = (1, max x (-1)) := by
  have hj := (List.getElem?_eq_some_iff.1 hx).1
  unfold lgChk
  rw [firstBad_at hj hall hb]
  simp only [List.getD_eq_getElem?_getD, hx, Option.getD_some]
theorem check29g_con (env : Env) (a1 a8 : Addr) (he : ChEnv env a1 a8) (c : ChD) (h : Full c) (hsm : Small c) (act : List Int) (hl : act.length ≤ 1000000) : Con Tryz.prog env 118 [tabAV c, .seq 1 (act.map intAV)] (chkE a1 c act) := by
  have hlen := h.few
  have f0 := tabChart_con env c hsm
  have f1 := flags_con env c (by omega) act hl
  have f2 := fun (k : Nat) (s : StD) (hs : c.states[k]? = some s) => fits_con env c h act k s hs
  have f3 := tabReal_con env c h (-1)
  rw [if_pos (.inl rfl)] at f3
  have hK := kids_few h.toRight (-1) true
  have hKm : ∀ j ∈ kidsL c (-1) true, j < c.states.length := fun j hj => by have := kid_gt h.toRight (kid_real hj).1; omega
  have f4 := many_con env c.states.length act (kidsL c (-1) true) (by omega) (by omega) hKm
  have fb := bad29_con env a1 a8 he (-1) (by omega)
  have hfl := flag_len c.states.length act
  unfold tabAV at f0 f1 f2 f3 ⊢
  refine con_of_body Tryz.func118 rfl Tryz.call118 (by rw [Tryz.ntmps118]; simp) ?_
  rw [Tryz.ntmps118, Tryz.results118]
  have F := chAV.eq_1
  repeat (first | refine st ?_ | refine cC f0 ?_ | refine cC f1 ?_)
  refine awp_loopH (D := Nat) (fun j vs => [(0, .ref 9 [tabCells c] 0 0), (1, .seq 1 (act.map intAV)), (5, .loc 5 (vs 5) 0 0), (6, .row 17 (vs 17)), (18, .seq 1 (act.map intAV)), (19, I act.length), (20, I j)]) (fun _ _ => [(5, ⟨5, [chAV c], 26, false⟩), (17, ⟨1, flagA c.states.length act, 4, true⟩)]) (fun j _ _ => j ≤ act.length ∧ ∀ m, m < j → lgAt c act m = true) (fun j => act.length - j) 0 ?_ ?_ ?_ ?_
  · exact ⟨Nat.zero_le _, fun m hm => absurd hm (by omega)⟩
  · (simp only [go_sem, F])
  · have F := chAV.eq_1
    (simp only [go_sem, F])
    try rfl
  rintro j ws esc ⟨hj, hall⟩
  by_cases hlt : j < act.length
  · obtain ⟨x, hx⟩ : ∃ x, act[j]? = some x := ⟨act[j], List.getElem?_eq_getElem hlt⟩
    have q1 := nlt hlt
    have q2 := wrap_succ hlt (by omega)
    have hat := lgAt_is (c := c) hx
    have fx := bad29g_con env a1 a8 he x
    have bad : lgAt c act j = false → chkE a1 c act = errV (max x (-1)) (sentV a1) := fun hb => chkE_bad (lgChk_badg hx hall hb)
    by_cases h0 : x < 0
    · rw [bad (by rw [hat, fitI_out (by unfold inZ; rw [decide_eq_false (by omega)]; rfl), Bool.and_false])]
      have F := And.intro hx <| And.intro q1 <| h0
      repeat (first | refine st ?_ | refine cC fx ?_)
      exact aR
    obtain ⟨k, rfl⟩ := nat_of (show 0 ≤ x by omega)
    by_cases h1 : (c.states.length : Int) ≤ k
    · rw [bad (by rw [hat, fitI_out (by unfold inZ; rw [decide_eq_false (p := (k : Int) < _) (by omega), Bool.and_false]), Bool.and_false])]
      have F := And.intro hx <| And.intro q1 <| And.intro h0 <| And.intro h1 <| hfl
      repeat (first | refine st ?_ | refine cC fx ?_)
      exact aR
    obtain ⟨s, hs⟩ : ∃ s, c.states[k]? = some s := ⟨c.states[k]'(by omega), List.getElem?_eq_getElem _⟩
    have f2 := f2 k s hs
    rw [fitI_nat hs] at hat
    by_cases hj0 : 0 < j
    · have q3 : (0 : Int) < (j : Int) := by omega
      have q4 : IntKind.i64.wrap ((j : Int) - 1) = ((j - 1 : Nat) : Int) := by rw [wrap_in (by omega) (by omega)]; omega
      have hy := prev_at hj0 hlt
      have q5 : ((j - 1 : Nat) : Int) < (act.length : Int) := by omega
      have b0 : (j == 0) = false := by simp; omega
      generalize act.getD (j - 1) 0 = y at *
      by_cases h2 : (k : Int) ≤ y
      · rw [bad (by rw [hat, b0, decide_eq_false (by omega)]; rfl)]
        have F := And.intro hx <| And.intro q1 <| And.intro h0 <| And.intro h1 <| And.intro hfl <| And.intro q3 <| And.intro q4 <| And.intro q5 <| And.intro hy <| h2
        repeat (first | refine st ?_ | refine cC fx ?_)
        exact aR
      cases hb : fitB c act k s with
      | false =>
        rw [hb] at f2 hat
        rw [bad (by rw [hat, Bool.and_false])]
        have F := And.intro chAV.eq_1 <| And.intro hx <| And.intro q1 <| And.intro h0 <| And.intro h1 <| And.intro hfl <| And.intro q3 <| And.intro q4 <| And.intro q5 <| And.intro hy <| h2
        repeat (first | refine st ?_ | refine cC f2 ?_ | refine cC fx ?_)
        exact aR
      | true =>
        rw [hb, b0, decide_eq_true (show y < (k : Int) by omega)] at hat
        rw [hb] at f2
        have F := And.intro chAV.eq_1 <| And.intro hx <| And.intro q1 <| And.intro q2 <| And.intro h0 <| And.intro h1 <| And.intro hfl <| And.intro q3 <| And.intro q4 <| And.intro q5 <| And.intro hy <| h2
        repeat (first | refine st ?_ | refine cC f2 ?_)
        refine ⟨j + 1, ⟨hlt, fun m hm => by rcases Nat.lt_succ_iff_lt_or_eq.1 hm with e | e; exact hall m e; rw [e]; exact hat⟩, ?_, ?_, by omega⟩
        · (simp only [go_sem, F])
        · have F := chAV.eq_1
          (simp only [go_sem, F])
    · have q3 : ¬ (0 : Int) < (j : Int) := by omega
      have b0 : (j == 0) = true := by simp; omega
      cases hb : fitB c act k s with
      | false =>
        rw [hb, b0] at hat
        rw [hb] at f2
        rw [bad (by rw [hat, Bool.and_false])]
        have F := And.intro chAV.eq_1 <| And.intro hx <| And.intro q1 <| And.intro h0 <| And.intro h1 <| And.intro hfl <| q3
        repeat (first | refine st ?_ | refine cC f2 ?_ | refine cC fx ?_)
        exact aR
      | true =>
        rw [hb, b0] at hat
        rw [hb] at f2
        have F := And.intro chAV.eq_1 <| And.intro hx <| And.intro q1 <| And.intro q2 <| And.intro h0 <| And.intro h1 <| And.intro hfl <| q3
        repeat (first | refine st ?_ | refine cC f2 ?_)
        refine ⟨j + 1, ⟨hlt, fun m hm => by rcases Nat.lt_succ_iff_lt_or_eq.1 hm with e | e; exact hall m e; rw [e]; exact hat⟩, ?_, ?_, by omega⟩
        · (simp only [go_sem, F])
        · have F := chAV.eq_1
          (simp only [go_sem, F])
  · obtain rfl : j = act.length := by omega
    have q1 : ¬ (act.length : Int) < (act.length : Int) := by omega
    have hc1 : lgChk c act = if manyI act (kidsL c (-1) true) = 1 then (0, -1) else (1, -1) := by
      unfold lgChk
      rw [firstBad_none hall]
    by_cases hm : manyI act (kidsL c (-1) true) = 1
    · rw [if_pos hm] at hc1
      rw [chkE_ok hc1]
      have hmi : ((manyI act (kidsL c (-1) true) : Nat) : Int) = 1 := by omega
      have F := And.intro q1 <| hmi
      repeat (first | refine st ?_ | refine cC f3 ?_ | refine cC f4 ?_)
      exact aR
    · rw [if_neg hm] at hc1
      rw [chkE_bad hc1]
      have hmi : (((manyI act (kidsL c (-1) true) : Nat) : Int) != 1) = true := by simp; omega
      have F := And.intro q1 <| hmi
      repeat (first | refine st ?_ | refine cC f3 ?_ | refine cC f4 ?_ | refine cC fb ?_)
      exact aR
theorem rCheck29g_con (env : Env) (c : ChD) (h : Full c) (act : List Int) (hl : act.length ≤ 1000000) : Con Tryz.prog env 69 [.agg (chAV c), .seq 1 (act.map intAV)] (.tuple [I (lgChk c act).1, I (lgChk c act).2]) := by
  have hlen := h.few
  have f3 := rKids_con env c (-1) true (by omega)
  have hK := kids_few h.toRight (-1) true
  have f4 := rMany_con env act (kidsL c (-1) true) hl (by omega)
  refine con_of_body Tryz.func69 rfl Tryz.call69 (by rw [Tryz.ntmps69]; simp) ?_
  rw [Tryz.ntmps69, Tryz.results69]
  have F := chAV.eq_1
  repeat refine st ?_
  refine awp_loopH (D := Nat) (fun j vs => [(1, .seq 1 (act.map intAV)), (2, .loc 2 (vs 2) 0 0), (6, I j)]) (fun _ _ => [(2, ⟨5, [chAV c], 26, false⟩)]) (fun j _ _ => j ≤ act.length ∧ ∀ m, m < j → lgAt c act m = true) (fun j => act.length - j) 0 ?_ ?_ ?_ ?_
  · exact ⟨Nat.zero_le _, fun m hm => absurd hm (by omega)⟩
  · (simp only [go_sem, F])
  · have F := chAV.eq_1
    (simp only [go_sem, F])
    try rfl
  rintro j ws esc ⟨hj, hall⟩
  by_cases hlt : j < act.length
  · obtain ⟨x, hx⟩ : ∃ x, act[j]? = some x := ⟨act[j], List.getElem?_eq_getElem hlt⟩
    have q1 := nlt hlt
    have q2 := wrap_succ hlt (by omega)
    have q6 : max x (-1) = if x < -1 then -1 else x := by split <;> omega
    have hat := lgAt_is (c := c) hx
    have f0 := rIs_con env c x
    have bad : lgAt c act j = false → lgChk c act = (1, max x (-1)) := fun hb => lgChk_badg hx hall hb
    cases hz : inZ c x with
    | false =>
      rw [hz] at f0
      rw [bad (by rw [hat, fitI_out hz, Bool.and_false])]
      have F := And.intro chAV.eq_1 <| And.intro hx <| And.intro q1 <| q6
      repeat (first | refine st ?_ | refine cC f0 ?_)
      exact aR
    | true =>
      rw [hz] at f0
      obtain ⟨k, s, rfl, hs, ha⟩ := at_in hz
      have f2 := rFits29_con env c h act hl k s hs
      rw [fitI_nat hs] at hat
      by_cases hj0 : 0 < j
      · have q3 : (0 : Int) < (j : Int) := by omega
        have q4 : IntKind.i64.wrap ((j : Int) - 1) = ((j - 1 : Nat) : Int) := by rw [wrap_in (by omega) (by omega)]; omega
        have hy := prev_at hj0 hlt
        have q5 : ((j - 1 : Nat) : Int) < (act.length : Int) := by omega
        have b0 : (j == 0) = false := by simp; omega
        generalize act.getD (j - 1) 0 = y at *
        by_cases h2 : (k : Int) ≤ y
        · rw [bad (by rw [hat, b0, decide_eq_false (by omega)]; rfl)]
          have F := And.intro chAV.eq_1 <| And.intro hx <| And.intro q1 <| And.intro q3 <| And.intro q4 <| And.intro q5 <| And.intro q6 <| And.intro hy <| h2
          repeat (first | refine st ?_ | refine cC f0 ?_)
          exact aR
        cases hb : fitB c act k s with
        | false =>
          rw [hb] at f2 hat
          rw [bad (by rw [hat, Bool.and_false])]
          have F := And.intro chAV.eq_1 <| And.intro hx <| And.intro q1 <| And.intro q3 <| And.intro q4 <| And.intro q5 <| And.intro q6 <| And.intro hy <| h2
          repeat (first | refine st ?_ | refine cC f0 ?_ | refine cC f2 ?_)
          exact aR
        | true =>
          rw [hb, b0, decide_eq_true (show y < (k : Int) by omega)] at hat
          rw [hb] at f2
          have F := And.intro chAV.eq_1 <| And.intro hx <| And.intro q1 <| And.intro q2 <| And.intro q3 <| And.intro q4 <| And.intro q5 <| And.intro hy <| h2
          repeat (first | refine st ?_ | refine cC f0 ?_ | refine cC f2 ?_)
          refine ⟨j + 1, ⟨hlt, fun m hm => by rcases Nat.lt_succ_iff_lt_or_eq.1 hm with e | e; exact hall m e; rw [e]; exact hat⟩, ?_, ?_, by omega⟩
          · (simp only [go_sem, F])
          · have F := chAV.eq_1
            (simp only [go_sem, F])
      · have q3 : ¬ (0 : Int) < (j : Int) := by omega
        have b0 : (j == 0) = true := by simp; omega
        cases hb : fitB c act k s with
        | false =>
          rw [hb, b0] at hat
          rw [hb] at f2
          rw [bad (by rw [hat, Bool.and_false])]
          have F := And.intro chAV.eq_1 <| And.intro hx <| And.intro q1 <| And.intro q3 <| q6
          repeat (first | refine st ?_ | refine cC f0 ?_ | refine cC f2 ?_)
          exact aR
        | true =>
          rw [hb, b0] at hat
          rw [hb] at f2
          have F := And.intro chAV.eq_1 <| And.intro hx <| And.intro q1 <| And.intro q2 <| q3
          repeat (first | refine st ?_ | refine cC f0 ?_ | refine cC f2 ?_)
          refine ⟨j + 1, ⟨hlt, fun m hm => by rcases Nat.lt_succ_iff_lt_or_eq.1 hm with e | e; exact hall m e; rw [e]; exact hat⟩, ?_, ?_, by omega⟩
          · (simp only [go_sem, F])
          · have F := chAV.eq_1
            (simp only [go_sem, F])
  · obtain rfl : j = act.length := by omega
    have q1 : ¬ (act.length : Int) < (act.length : Int) := by omega
    have hc1 : lgChk c act = if manyI act (kidsL c (-1) true) = 1 then (0, -1) else (1, -1) := by
      unfold lgChk
      rw [firstBad_none hall]
    rw [hc1]
    by_cases hm : manyI act (kidsL c (-1) true) = 1
    · rw [if_pos hm]
      have hmi : ((manyI act (kidsL c (-1) true) : Nat) : Int) = 1 := by omega
      have F := And.intro chAV.eq_1 <| And.intro q1 <| hmi
      repeat (first | refine st ?_ | refine cC f3 ?_ | refine cC f4 ?_)
      exact aR
    · rw [if_neg hm]
      have hmi : (((manyI act (kidsL c (-1) true) : Nat) : Int) != 1) = true := by simp; omega
      have F := And.intro chAV.eq_1 <| And.intro q1 <| hmi
      repeat (first | refine st ?_ | refine cC f3 ?_ | refine cC f4 ?_)
      exact aR
end Go.Proofs.YtlmekdfleciejaaGreatDoor
namespace Go.Proofs.YtlmekdfleciejaaGreatDoor
open Go.RowKit
/-! Legal states -/
theorem nat_rise {l : List Int} (h : ∀ j, 0 < j → j < l.length → l.getD (j - 1) 0 < l.getD j 0) : l.Pairwise (· < ·) := by
  rw [List.pairwise_iff_getElem]
  intro i j hi hj hij
  have key : ∀ d, i + d + 1 < l.length → l.getD i 0 < l.getD (i + d + 1) 0 := fun d => by
    induction d with
    | zero => intro hd; simpa using h (i + 1) (by omega) (by omega)
    | succ d ih =>
      intro hd
      have h1 := ih (by omega)
      have h2 := h (i + d + 1 + 1) (by omega) (by omega)
      have e : i + (d + 1) + 1 = i + d + 1 + 1 := by omega
      rw [e]
      simp only [Nat.add_sub_cancel] at h2
      omega
  have := key (j - i - 1) (by omega)
  rw [show i + (j - i - 1) + 1 = j by omega] at this
  simpa [List.getD_eq_getElem?_getD, List.getElem?_eq_getElem hi, List.getElem?_eq_getElem hj] using this
structure Lg (c : ChD) (act : List Int) : Prop where
  rise : act.Pairwise (· < ·)
  fit : ∀ x ∈ act, ∃ s, at_ c x = some s ∧ fitB c act x.toNat s = true
  top : manyI act (kidsL c (-1) true) = 1
theorem lg_out {c : ChD} {act : List Int} (h : lgB c act = true) : Lg c act := by
  obtain ⟨h1, h2⟩ := lg_iff.1 h
  have h3 : ∀ j (hj : j < act.length), (j == 0 || decide (act.getD (j - 1) 0 < act[j])) = true ∧ fitI c act act[j] = true := fun j hj => by
    have := h1 j hj
    unfold lgAt at this
    rw [List.getElem?_eq_getElem hj] at this
    simpa only [Bool.and_eq_true] using this
  refine ⟨nat_rise fun j h0 hj => ?_, fun x hx => ?_, h2⟩
  · have := (h3 j hj).1
    have hne : (j == 0) = false := by simp; omega
    rw [hne, Bool.false_or, decide_eq_true_eq] at this
    simpa [List.getD_eq_getElem?_getD, List.getElem?_eq_getElem hj] using this
  · obtain ⟨j, hj, rfl⟩ := List.mem_iff_getElem.1 hx
    have := (h3 j hj).2
    unfold fitI at this
    split at this
    · rename_i s hs; exact ⟨s, hs, this⟩
    · cases this
theorem Lg.of {c : ChD} {act : List Int} (h : Lg c act) {x : Int} (hx : x ∈ act) : ∃ s, at_ c x = some s ∧ inZ c x = true ∧ memyB s = false ∧ (parZ c x < 0 ∨ parZ c x ∈ act) ∧ (s.kind = 1 → kidsL c x true ≠ [] → manyI act (kidsL c x true) = 1) ∧ (s.kind = 2 → manyI act (kidsL c x true) = (kidsL c x true).length) := by
  obtain ⟨s, hs, hf⟩ := h.fit x hx
  have h0 : 0 ≤ x ∧ c.states[x.toNat]? = some s := by
    unfold at_ at hs
    split at hs
    · exact ⟨by assumption, hs⟩
    · cases hs
  obtain ⟨k, rfl⟩ : ∃ k : Nat, x = k := ⟨x.toNat, by omega⟩
  have hk := (List.getElem?_eq_some_iff.1 h0.2).1
  have hp : parZ c (k : Int) = s.parent := by unfold parZ; rw [hs]
  unfold fitB at hf
  rw [Int.toNat_natCast, Bool.and_eq_true, Bool.and_eq_true] at hf
  obtain ⟨⟨f1, f2⟩, f3⟩ := hf
  refine ⟨s, hs, inZ_iff.2 ⟨by omega, by simpa using hk⟩, by simpa using f1, ?_, fun e hne => ?_, fun e => ?_⟩
  · rw [hp]
    rw [Bool.or_eq_true, decide_eq_true_eq] at f2
    exact f2.imp id fun f2 => by simpa using f2
  · rw [if_pos ⟨e, hne⟩] at f3
    simpa using f3
  · rw [if_neg (fun q => by omega), if_pos e] at f3
    simpa using f3
theorem Lg.real {c : ChD} {act : List Int} (h : Lg c act) {x : Int} (hx : x ∈ act) {s : StD} (hs : at_ c x = some s) : s.kind ≠ 4 ∧ s.kind ≠ 5 := by
  obtain ⟨s', e, _, hm, _⟩ := h.of hx
  rw [hs] at e
  cases e
  unfold memyB at hm
  simpa using hm
theorem Lg.up {c : ChD} (hr : Right c) {act : List Int} (h : Lg c act) : ∀ (n : Nat) (x k : Int), x < n → x ∈ act → k ∈ upL c x → 0 ≤ k → k ∈ act
  | 0, x, k, hn, hx, hk, h0 => by
    obtain ⟨_, _, hz, _⟩ := h.of hx
    have := inZ_iff.1 hz
    omega
  | n + 1, x, k, hn, hx, hk, h0 => by
    obtain ⟨_, _, hz, _, hp, _⟩ := h.of hx
    rw [up_mem hr hz] at hk
    have := par_lt hr hz
    rcases hk with rfl | hk
    · exact hp.resolve_left (by omega)
    · rcases hp with hp | hp
      · rw [up_out (by unfold inZ; rw [decide_eq_false (by omega), Bool.false_and])] at hk
        simp at hk
      · exact Lg.up hr h n _ k (by omega) hp hk h0
/-! Memories in their order -/
abbrev Srt (l : List MemD) : Prop := l.Pairwise fun a b => a.1 < b.1
/-! What is remembered -/
/-! As the document says -/
theorem mems_at {c : ChD} {mem : List MemD} (h : memsB c mem = true) : Srt mem ∧ ∀ m ∈ mem, memB c m = true := by
  have h1 : ∀ j (hj : j < mem.length), memB c mem[j] = true ∧ (j = 0 ∨ (mem.getD (j - 1) (0, [])).1 < mem[j].1) := fun j hj => by
    have := List.all_eq_true.1 h j (List.mem_range.2 hj)
    unfold memAt at this
    rw [List.getElem?_eq_getElem hj, Bool.and_eq_true, Bool.or_eq_true, decide_eq_true_eq] at this
    exact ⟨this.1, this.2.imp (by simp) id⟩
  refine ⟨List.pairwise_iff_getElem.2 ?_, fun m hm => ?_⟩
  · intro i j hi hj hij
    have key : ∀ d (hd : i + d + 1 < mem.length), mem[i].1 < mem[i + d + 1].1 := fun d => by
      induction d with
      | zero =>
        intro hd
        have := (h1 (i + 1) hd).2.resolve_left (by omega)
        simpa [List.getD_eq_getElem?_getD, List.getElem?_eq_getElem hi] using this
      | succ d ih =>
        intro hd
        have a := ih (by omega)
        have b := (h1 (i + d + 1 + 1) (by omega)).2.resolve_left (by omega)
        simp only [Nat.add_sub_cancel, List.getD_eq_getElem?_getD, List.getElem?_eq_getElem (show i + d + 1 < mem.length by omega), Option.getD_some] at b
        have e : i + (d + 1) + 1 = i + d + 1 + 1 := by omega
        simp only [e]
        omega
    have := key (j - i - 1) (by omega)
    simpa [show i + (j - i - 1) + 1 = j by omega] using this
  · obtain ⟨j, hj, rfl⟩ := List.mem_iff_getElem.1 hm
    exact (h1 j hj).1
theorem rise_ne {l : List Int} (h : riseB l = true) : l ≠ [] := by
  unfold riseB at h
  rw [Bool.and_eq_true] at h
  intro e
  rw [e] at h
  simp at h
theorem many_filter (act : List Int) (ks : List Nat) : ((zL ks).filter fun k => act.contains k).length = manyI act ks := by
  unfold manyI zL
  rw [List.filter_map, List.length_map]
  rfl
theorem beneath_kid {c : ChD} (hr : Right c) {p x : Int} (hx : inZ c x = true) : aboveB c p x = true ↔ parZ c x = p ∨ aboveB c p (parZ c x) = true := by
  unfold aboveB
  rw [List.contains_iff_mem, List.contains_iff_mem, up_mem hr hx]
  exact ⟨fun h => h.imp Eq.symm id, fun h => h.imp Eq.symm id⟩
theorem hist_of {c : ChD} (h : Full c) {k : Nat} {s : StD} (hs : c.states[k]? = some s) (hm : memyB s = true) : plainZ c s.parent = true ∧ normAt c s.parent = true ∧ kidsL c s.parent true ≠ [] ∧ inZ c s.parent = true ∧ (s.kind = 4 ∨ s.kind = 5) := by
  have hk : s.kind = 4 ∨ s.kind = 5 := by unfold memyB at hm; simpa using hm
  rcases h.cases hs with ⟨e, _⟩ | ⟨e, _⟩ | ⟨e, _⟩ | ⟨_, _, hp, hi⟩
  · omega
  · omega
  · omega
  · unfold plainB at hp
    split at hp
    · rename_i q hq
      refine ⟨by unfold plainZ; rw [hq]; exact hp, ?_, fun e => ?_, ?_, hk⟩
      · unfold normAt normB
        rw [hq]
        simp only [hp, Bool.true_or]
      · rw [e] at hi; simp [inL] at hi
      · unfold at_ at hq
        split at hq
        · rename_i h0
          have := (List.getElem?_eq_some_iff.1 hq).1
          exact inZ_iff.2 ⟨h0, by omega⟩
        · cases hq
    · cases hp
/-! Moves -/
end Go.Proofs.YtlmekdfleciejaaGreatDoor
