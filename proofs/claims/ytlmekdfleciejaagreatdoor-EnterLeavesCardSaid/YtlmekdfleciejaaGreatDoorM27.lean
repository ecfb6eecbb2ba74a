/- Charts' laws: what their variables hold; chart.Check, awake. -/
import Derived.Test.YtlmekdfleciejaaGreatDoorM26
import Derived.Test.YtlmekdfleciejaaGreatDoorM6
import Derived.Test.YtlmekdfleciejaaGreatDoorM8
import Derived.Test.YtlmekdfleciejaaGreatDoorM21
import Derived.Test.YtlmekdfleciejaaGreatDoorM19
import Derived.Test.YtlmekdfleciejaaGreatDoorM14
import Derived.Test.YtlmekdfleciejaaGreatDoorRows
import Derived.ProofKit
import Derived.LaidMore
import Derived.OpenShut
import Derived.LaidLaws
import Derived.Stop.Joined
import Derived.LaidHandle
set_option linter.unusedSimpArgs false
namespace Go.Proofs.YtlmekdfleciejaaGreatDoor
open Go.RowKit
set_option maxRecDepth 100000
set_option maxHeartbeats 8000000
theorem pTran_con (env : Env) (a1 a8 : Addr) (he : ChEnv env a1 a8) (c : ChD) (t : TrD) (hf : few_tr t) : Con Tryz.prog env 183 [.agg (chAV c), .agg (trAV t)] (B (tranB c t)) := by
  have f1 := pAt_con env c t.src
  have f3 := tokName_con env t.event (max63 hf.1)
  have f4 := pCode_con env a1 a8 he c t.guard
  have f5 := pActs_con env a1 a8 he c t.acts (acts_few hf.2.2).1 (acts_few hf.2.2).2
  have f6 := pAt_con env c t.target
  have z1 := nil_len t.guard
  by_cases h1 : 0 ≤ t.src
  case neg =>
    rw [show tranB c t = false by unfold tranB normAt at_; rw [if_neg h1]; rfl]
    refine con_of_body Tryz.func183 rfl Tryz.call183 (by rw [Tryz.ntmps183]; simp) ?_
    rw [Tryz.ntmps183, Tryz.results183]
    have F := And.intro chAV.eq_1 <| And.intro trAV.eq_1 <| h1
    repeat (first | refine st ?_ | refine cC f1 ?_)
    exact aR
  obtain ⟨m, hm⟩ := nat_of h1
  by_cases h2 : (m : Int) < (c.states.length : Int)
  case neg =>
    rw [show tranB c t = false by unfold tranB normAt; rw [hm, at_nat, List.getElem?_eq_none (by omega)]; rfl]
    have hm' : (t.src < (c.states.length : Int)) = False := by rw [hm]; simpa using h2
    refine con_of_body Tryz.func183 rfl Tryz.call183 (by rw [Tryz.ntmps183]; simp) ?_
    rw [Tryz.ntmps183, Tryz.results183]
    have F := And.intro chAV.eq_1 <| And.intro trAV.eq_1 <| And.intro h1 <| hm'
    repeat (first | refine st ?_ | refine cC f1 ?_)
    exact aR
  obtain ⟨q, hq, _⟩ := some_at (show m < c.states.length by omega)
  have f2 := pNormal_con env q
  have hr : tranB c t = (normB q && ((t.event == []) || nameB t.event) && ((t.guard == []) || codeB t.guard c.vars.length c.states.length) && actsB c.vars.length c.states.length t.acts && ((t.target == -1) || (decide (0 ≤ t.target) && decide (t.target < c.states.length)))) := by unfold tranB; rw [hm, normAt_nat hq]
  rw [hr]
  rw [hm] at f1
  cases e1 : normB q
  · rw [Bool.false_and, Bool.false_and, Bool.false_and, Bool.false_and]
    refine con_of_body Tryz.func183 rfl Tryz.call183 (by rw [Tryz.ntmps183]; simp) ?_
    rw [Tryz.ntmps183, Tryz.results183]
    have F := And.intro chAV.eq_1 <| And.intro trAV.eq_1 <| And.intro stAV.eq_1 <| And.intro hm <| And.intro h2 <| And.intro hq <| e1
    repeat (first | refine st ?_ | refine cC f1 ?_ | refine cC f2 ?_)
    exact aR
  have body : ((t.event == []) || nameB t.event) = true → Con Tryz.prog env 183 [.agg (chAV c), .agg (trAV t)] (B (((t.guard == []) || codeB t.guard c.vars.length c.states.length) && actsB c.vars.length c.states.length t.acts && ((t.target == -1) || (decide (0 ≤ t.target) && decide (t.target < c.states.length))))) := fun hev => by
    have go : ∀ {b1 b2 : Bool}, (t.event == []) = b1 → (b1 = false → nameB t.event = b2) → (b1 || b2) = true → Con Tryz.prog env 183 [.agg (chAV c), .agg (trAV t)] (B (((t.guard == []) || codeB t.guard c.vars.length c.states.length) && actsB c.vars.length c.states.length t.acts && ((t.target == -1) || (decide (0 ≤ t.target) && decide (t.target < c.states.length))))) := fun {b1 b2} g1 g2 g3 => by
      refine con_of_body Tryz.func183 rfl Tryz.call183 (by rw [Tryz.ntmps183]; simp) ?_
      rw [Tryz.ntmps183, Tryz.results183]
      cases b1 with
      | true =>
        cases e4 : (t.guard == []) with
        | true =>
          cases e6 : actsB c.vars.length c.states.length t.acts with
          | false =>
            have F := And.intro chAV.eq_1 <| And.intro trAV.eq_1 <| And.intro stAV.eq_1 <| And.intro hm <| And.intro h2 <| And.intro hq <| And.intro e1 <| And.intro g1 <| And.intro z1 <| And.intro e4 <| e6
            repeat (first | refine st ?_ | refine cC f1 ?_ | refine cC f2 ?_ | refine cC f3 ?_ | refine cC f4 ?_ | refine cC f5 ?_ | refine cC f6 ?_)
            exact aR
          | true =>
            cases e7 : (t.target == -1) with
            | false =>
              have F := And.intro chAV.eq_1 <| And.intro trAV.eq_1 <| And.intro stAV.eq_1 <| And.intro hm <| And.intro h2 <| And.intro hq <| And.intro e1 <| And.intro g1 <| And.intro z1 <| And.intro e4 <| And.intro e6 <| e7
              repeat (first | refine st ?_ | refine cC f1 ?_ | refine cC f2 ?_ | refine cC f3 ?_ | refine cC f4 ?_ | refine cC f5 ?_ | refine cC f6 ?_)
              exact aR
            | true =>
              have F := And.intro chAV.eq_1 <| And.intro trAV.eq_1 <| And.intro stAV.eq_1 <| And.intro hm <| And.intro h2 <| And.intro hq <| And.intro e1 <| And.intro g1 <| And.intro z1 <| And.intro e4 <| And.intro e6 <| e7
              repeat (first | refine st ?_ | refine cC f1 ?_ | refine cC f2 ?_ | refine cC f3 ?_ | refine cC f4 ?_ | refine cC f5 ?_ | refine cC f6 ?_)
              exact aR
        | false =>
          cases e5 : codeB t.guard c.vars.length c.states.length with
          | false =>
            have F := And.intro chAV.eq_1 <| And.intro trAV.eq_1 <| And.intro stAV.eq_1 <| And.intro hm <| And.intro h2 <| And.intro hq <| And.intro e1 <| And.intro g1 <| And.intro z1 <| And.intro e4 <| e5
            repeat (first | refine st ?_ | refine cC f1 ?_ | refine cC f2 ?_ | refine cC f3 ?_ | refine cC f4 ?_ | refine cC f5 ?_ | refine cC f6 ?_)
            exact aR
          | true =>
            cases e6 : actsB c.vars.length c.states.length t.acts with
            | false =>
              have F := And.intro chAV.eq_1 <| And.intro trAV.eq_1 <| And.intro stAV.eq_1 <| And.intro hm <| And.intro h2 <| And.intro hq <| And.intro e1 <| And.intro g1 <| And.intro z1 <| And.intro e4 <| And.intro e5 <| e6
              repeat (first | refine st ?_ | refine cC f1 ?_ | refine cC f2 ?_ | refine cC f3 ?_ | refine cC f4 ?_ | refine cC f5 ?_ | refine cC f6 ?_)
              exact aR
            | true =>
              cases e7 : (t.target == -1) with
              | false =>
                have F := And.intro chAV.eq_1 <| And.intro trAV.eq_1 <| And.intro stAV.eq_1 <| And.intro hm <| And.intro h2 <| And.intro hq <| And.intro e1 <| And.intro g1 <| And.intro z1 <| And.intro e4 <| And.intro e5 <| And.intro e6 <| e7
                repeat (first | refine st ?_ | refine cC f1 ?_ | refine cC f2 ?_ | refine cC f3 ?_ | refine cC f4 ?_ | refine cC f5 ?_ | refine cC f6 ?_)
                exact aR
              | true =>
                have F := And.intro chAV.eq_1 <| And.intro trAV.eq_1 <| And.intro stAV.eq_1 <| And.intro hm <| And.intro h2 <| And.intro hq <| And.intro e1 <| And.intro g1 <| And.intro z1 <| And.intro e4 <| And.intro e5 <| And.intro e6 <| e7
                repeat (first | refine st ?_ | refine cC f1 ?_ | refine cC f2 ?_ | refine cC f3 ?_ | refine cC f4 ?_ | refine cC f5 ?_ | refine cC f6 ?_)
                exact aR
      | false =>
        have g2 := g2 rfl
        obtain rfl : b2 = true := by simpa using g3
        cases e4 : (t.guard == []) with
        | true =>
          cases e6 : actsB c.vars.length c.states.length t.acts with
          | false =>
            have F := And.intro chAV.eq_1 <| And.intro trAV.eq_1 <| And.intro stAV.eq_1 <| And.intro hm <| And.intro h2 <| And.intro hq <| And.intro e1 <| And.intro g1 <| And.intro g2 <| And.intro z1 <| And.intro e4 <| e6
            repeat (first | refine st ?_ | refine cC f1 ?_ | refine cC f2 ?_ | refine cC f3 ?_ | refine cC f4 ?_ | refine cC f5 ?_ | refine cC f6 ?_)
            exact aR
          | true =>
            cases e7 : (t.target == -1) with
            | false =>
              have F := And.intro chAV.eq_1 <| And.intro trAV.eq_1 <| And.intro stAV.eq_1 <| And.intro hm <| And.intro h2 <| And.intro hq <| And.intro e1 <| And.intro g1 <| And.intro g2 <| And.intro z1 <| And.intro e4 <| And.intro e6 <| e7
              repeat (first | refine st ?_ | refine cC f1 ?_ | refine cC f2 ?_ | refine cC f3 ?_ | refine cC f4 ?_ | refine cC f5 ?_ | refine cC f6 ?_)
              exact aR
            | true =>
              have F := And.intro chAV.eq_1 <| And.intro trAV.eq_1 <| And.intro stAV.eq_1 <| And.intro hm <| And.intro h2 <| And.intro hq <| And.intro e1 <| And.intro g1 <| And.intro g2 <| And.intro z1 <| And.intro e4 <| And.intro e6 <| e7
              repeat (first | refine st ?_ | refine cC f1 ?_ | refine cC f2 ?_ | refine cC f3 ?_ | refine cC f4 ?_ | refine cC f5 ?_ | refine cC f6 ?_)
              exact aR
        | false =>
          cases e5 : codeB t.guard c.vars.length c.states.length with
          | false =>
            have F := And.intro chAV.eq_1 <| And.intro trAV.eq_1 <| And.intro stAV.eq_1 <| And.intro hm <| And.intro h2 <| And.intro hq <| And.intro e1 <| And.intro g1 <| And.intro g2 <| And.intro z1 <| And.intro e4 <| e5
            repeat (first | refine st ?_ | refine cC f1 ?_ | refine cC f2 ?_ | refine cC f3 ?_ | refine cC f4 ?_ | refine cC f5 ?_ | refine cC f6 ?_)
            exact aR
          | true =>
            cases e6 : actsB c.vars.length c.states.length t.acts with
            | false =>
              have F := And.intro chAV.eq_1 <| And.intro trAV.eq_1 <| And.intro stAV.eq_1 <| And.intro hm <| And.intro h2 <| And.intro hq <| And.intro e1 <| And.intro g1 <| And.intro g2 <| And.intro z1 <| And.intro e4 <| And.intro e5 <| e6
              repeat (first | refine st ?_ | refine cC f1 ?_ | refine cC f2 ?_ | refine cC f3 ?_ | refine cC f4 ?_ | refine cC f5 ?_ | refine cC f6 ?_)
              exact aR
            | true =>
              cases e7 : (t.target == -1) with
              | false =>
                have F := And.intro chAV.eq_1 <| And.intro trAV.eq_1 <| And.intro stAV.eq_1 <| And.intro hm <| And.intro h2 <| And.intro hq <| And.intro e1 <| And.intro g1 <| And.intro g2 <| And.intro z1 <| And.intro e4 <| And.intro e5 <| And.intro e6 <| e7
                repeat (first | refine st ?_ | refine cC f1 ?_ | refine cC f2 ?_ | refine cC f3 ?_ | refine cC f4 ?_ | refine cC f5 ?_ | refine cC f6 ?_)
                exact aR
              | true =>
                have F := And.intro chAV.eq_1 <| And.intro trAV.eq_1 <| And.intro stAV.eq_1 <| And.intro hm <| And.intro h2 <| And.intro hq <| And.intro e1 <| And.intro g1 <| And.intro g2 <| And.intro z1 <| And.intro e4 <| And.intro e5 <| And.intro e6 <| e7
                repeat (first | refine st ?_ | refine cC f1 ?_ | refine cC f2 ?_ | refine cC f3 ?_ | refine cC f4 ?_ | refine cC f5 ?_ | refine cC f6 ?_)
                exact aR
    exact go (b1 := (t.event == [])) (b2 := nameB t.event) rfl (fun _ => rfl) hev
  cases e2 : (t.event == [])
  · cases e3 : nameB t.event
    · rw [Bool.or_false, Bool.and_false, Bool.false_and, Bool.false_and, Bool.false_and]
      refine con_of_body Tryz.func183 rfl Tryz.call183 (by rw [Tryz.ntmps183]; simp) ?_
      rw [Tryz.ntmps183, Tryz.results183]
      have F := And.intro chAV.eq_1 <| And.intro trAV.eq_1 <| And.intro stAV.eq_1 <| And.intro hm <| And.intro h2 <| And.intro hq <| And.intro e1 <| And.intro e2 <| e3
      repeat (first | refine st ?_ | refine cC f1 ?_ | refine cC f2 ?_ | refine cC f3 ?_)
      exact aR
    · simp only [Bool.or_true, Bool.true_and]
      exact body (by rw [e2, e3]; rfl)
  · simp only [Bool.true_or, Bool.true_and]
    exact body (by rw [e2]; rfl)
end Go.Proofs.YtlmekdfleciejaaGreatDoor
set_option linter.unusedSimpArgs false
namespace Go.Proofs.YtlmekdfleciejaaGreatDoor
open Go.RowKit
set_option maxRecDepth 100000
set_option maxHeartbeats 8000000
end Go.Proofs.YtlmekdfleciejaaGreatDoor
namespace Go.Proofs.YtlmekdfleciejaaGreatDoor
open Go.RowKit Go.ChangeShapes
section
variable {P : Program} {W : World} {nm : String} {ti tp te ts : TypeId} {ms : Array (String × TypeId)} {f : Field}
theorem laid_list (hi : P.underlying ti = some (.interface ms)) (hrow : ∀ u, P.typeName? 3 u = some nm → u = tp)
    (hp : P.underlying tp = some (.pointer te)) (he : P.underlying te = some (.struct #[f])) (hft : f.type = ts) (hfo : f.offset = 0) (hs : P.underlying ts = some .string) (hc : P.cellsOf te = 1) (hcs : P.cellsOf ts = 1) :
    ∀ (l : List (String × List UInt8)) (gs : List Nat) (ps : List MemPlace), DataW.LaidVars P W (l.map fun x => (x.1, .iface nm (.ptr (.agg [.lit (.string x.2)])))) ps →
      l.map (fun x => P.globalNamed x.1) = gs.map some → (∀ g ∈ gs, (P.globals[g]?).map (·.type) = some ti) →
      (∀ b off, MemPlace.cell b off ∈ ps → (∃ c t, W.heap[b]? = some (.cells c t (0, 0))) ∧ ∀ u v, W.cell? ⟨b, off, none⟩ = some (.iface u v) → Value.okWide P W .any 0 u v) →
      ∃ adl : List Addr, adl.length = gs.length ∧ (∀ (i : Nat) (g : Nat) (a : Addr), gs[i]? = some g → adl[i]? = some a → W.cell? ⟨g, 0, none⟩ = some (.iface tp (.pointer (some a))) ∧ ∃ ca ta, W.heap[a.block]? = some (.cells ca ta (0, 0))) ∧
        (adl.map fun a => MemPlace.cell a.block a.off).Sublist ps
  | [], gs, ps, _, hg, _, _ => by
    obtain rfl : gs = [] := by cases gs <;> simp_all
    exact ⟨[], rfl, by simp, by simp⟩
  | (n, text) :: l, gs, ps, hv, hg, ht, hrows => by
    obtain ⟨g, gs, rfl⟩ : ∃ g gs', gs = g :: gs' := by cases gs <;> simp_all
    simp only [List.map_cons, List.cons.injEq] at hg
    obtain ⟨g0, t0, cs0, f0, p0, q0, hg0, ht0, hv0, hd0, hrest, rfl⟩ := hv
    obtain rfl := Option.some.inj (hg.1.symm.trans hg0)
    obtain rfl := Option.some.inj ((ht g (by simp)).symm.trans ht0)
    obtain ⟨l0⟩ := cs0
    have ok0 : ∀ u v, l0 = [.iface u v] → Value.okWide P W .any 0 u v := fun u v e => by
      subst e
      exact (hrows g 0 (by simp [MemPlace.row])).2 u v (by simpa using World.var?_cell hg0 hv0 0)
    obtain ⟨a0, s0, rfl, _, _, _, rfl⟩ := errorString_of_trod hi hrow hp he hft hfo hs hc hcs hd0 ok0
    obtain ⟨adl, h1, h2, h3⟩ := laid_list hi hrow hp he hft hfo hs hc hcs l gs q0 hrest hg.2 (fun g' h => ht g' (by simp [h])) (fun b off h => hrows b off (List.mem_append_right _ h))
    refine ⟨a0 :: adl, by simp [h1], ?_, ?_⟩
    · intro i g' a' hg' ha'
      cases i with
      | zero =>
        simp at hg' ha'
        subst hg' ha'
        exact ⟨by simpa using World.var?_cell hg0 hv0 0, (hrows a0.block a0.off (by simp [MemPlace.row])).1⟩
      | succ i => exact h2 i g' a' (by simpa using hg') (by simpa using ha')
    · simp only [List.map_cons, MemPlace.row]
      exact List.Sublist.trans (List.Sublist.append (by simp : [MemPlace.cell a0.block a0.off].Sublist _) h3) (List.Sublist.append (List.sublist_append_right _ _) (List.Sublist.refl _))
end
theorem Tryz.row160 : ∀ u, Tryz.prog.typeName? 3 u = some "*errors.errorString" → u = 261 :=
  fun u hu => typeName_ptr_named (nm := "errors.errorString") (by kernel_rfl) (by kernel_rfl) (by decide) u hu
section
open Go.WideShapes
variable {H : Type} {enc : TypeId × Value → H} {P : Program}
theorem trodAll_kept (hl : laidOutB P = true) {W W' : World} (hb : Below W.heap.size W W') : ∀ (ts : List TypeId) (vs : List Value) (ds : List (DataW H)) (ps : List MemPlace),
    (∀ t ∈ ts, P.readableRec t = true ∧ t < P.types.size) → (∀ x ∈ ps, x.block < W.heap.size) → DataW.TrodAll enc P W 0 (fun _ => true) true ts vs ds ps → DataW.TrodAll enc P W' 0 (fun b => decide (b < W.heap.size)) true ts vs ds ps
  | [], [], [], _, _, _, h => h
  | t :: ts, v :: vs, d :: ds, ps, ht, hp, h => by
    obtain ⟨p, q, h1, h2, rfl⟩ := h
    have r := ht t (by simp)
    exact ⟨p, q, Below.trod hl r.1 r.2 h1 hb (fun x hx => hp x (List.mem_append_left _ hx)), trodAll_kept hl hb ts vs ds q (fun t' h' => ht t' (by simp [h'])) (fun x hx => hp x (List.mem_append_right _ hx)) h2, rfl⟩
  | [], _ :: _, _, _, _, _, h => by cases h
  | [], [], _ :: _, _, _, _, h => by cases h
  | _ :: _, [], _, _, _, _, h => by cases h
  | _ :: _, _ :: _, [], _, _, _, h => by cases h
theorem law_post (hl : laidOutB P = true) {f : Func} {s : ChangeSpec} {tb : TypeId} {W W' : World} {args : Array Value} {ds gs : List (DataW H)} {before : List MemPlace}
    (hpar : ∀ t ∈ f.params.toList, P.readableRec t = true ∧ t < P.types.size) (hrt : f.resultTypes = #[tb]) (htb : P.underlying tb = some .bool)
    (hW : DataW.Whole enc P f.params.toList s.vars false W args.toList ds gs before) (hv : s.vars = [])
    (hs : gs = [] → s.fn H (ds ++ gs) = { results := [.lit (.bool true)], args := ds }) (hb : Below W.heap.size W W') : s.post enc P f false true false false W args (.bool true) W' := by
  have hlt : ∀ p ∈ before, p.block < W.heap.size := fun p hp => hW.lt p hp
  have hW' := hW
  obtain ⟨p, q, hA, hV, rfl, _, _⟩ := hW
  rw [hv] at hV
  obtain ⟨rfl, rfl⟩ := trodVars_none hV
  have hs := hs rfl
  rw [List.append_nil] at hlt
  refine ⟨ds, [], p ++ [], [], p, [], hW', ?_, ?_, ?_, ?_, fun h => by cases h⟩
  · rw [hs, hrt]
    exact trodAll_mk1 (shut_bool htb true)
  · rw [hs]
    exact trodAll_kept hl hb _ _ _ _ hpar hlt hA
  · rw [hs, hv]
    rfl
  · exact World.keptBut_mono (fun x hx => ⟨hx, .inr (.inl (by simpa using hx))⟩) (hb.frame (· ∈ p ++ []))
end
section
open Go.WideShapes
variable {H : Type} {enc : TypeId × Value → H} {P : Program} {w : World} {base : Nat} {spare : Nat → Bool} {held : Bool}
end
theorem sents_of_nine {W : World} (h : laidMetH Tryz.prog [("scrinium/api.ErrForm", Rows.laid_scrinium_api_ErrForm), ("scrinium/api.ErrRange", Rows.laid_scrinium_api_ErrRange), ("scrinium/api.ErrFull", Rows.laid_scrinium_api_ErrFull), ("scrinium/api.ErrNone", Rows.laid_scrinium_api_ErrNone), ("scrinium/api.ErrCorrupt", Rows.laid_scrinium_api_ErrCorrupt), ("scrinium/api.ErrFuel", Rows.laid_scrinium_api_ErrFuel), ("scrinium/api.ErrState", Rows.laid_scrinium_api_ErrState), ("scrinium/api.ErrLong", Rows.laid_scrinium_api_ErrLong), ("scrinium/api.ErrTwice", Rows.laid_scrinium_api_ErrTwice)] W) : ∃ ad, Sents W ad := by
  rw [MakeChecks.laidMetH_plain _ _ _ (by kernel_rfl)] at h
  obtain ⟨ps, hv, hnd, hrows⟩ := h
  obtain ⟨adl, h1, h2, h3⟩ := laid_list (nm := "*errors.errorString") Tryz.underlying51 Tryz.row160 Tryz.underlying261 Tryz.underlying281 rfl rfl Tryz.underlying9 (by kernel_rfl) (by kernel_rfl)
    [("scrinium/api.ErrForm", [102, 111, 114, 109]), ("scrinium/api.ErrRange", [114, 97, 110, 103, 101]), ("scrinium/api.ErrFull", [102, 117, 108, 108]), ("scrinium/api.ErrNone", [110, 111, 110, 101]), ("scrinium/api.ErrCorrupt", [99, 111, 114, 114, 117, 112, 116]), ("scrinium/api.ErrFuel", [102, 117, 101, 108]), ("scrinium/api.ErrState", [115, 116, 97, 116, 101]), ("scrinium/api.ErrLong", [108, 111, 110, 103]), ("scrinium/api.ErrTwice", [116, 119, 105, 99, 101])] [1, 2, 3, 4, 5, 6, 0, 7, 8] ps hv (by kernel_rfl) (by
      intro g hg
      simp at hg
      rcases hg with rfl | rfl | rfl | rfl | rfl | rfl | rfl | rfl | rfl <;> kernel_rfl) hrows
  have hnd' := List.Nodup.sublist h3 hnd
  match adl, h1 with
  | [a1, a2, a3, a4, a5, a6, a7, a8, a9], _ =>
    refine ⟨fun i => [a1, a2, a3, a4, a5, a6, a7, a8, a9].getD (i - 1) a1, h2 0 _ _ rfl rfl, h2 1 _ _ rfl rfl, h2 2 _ _ rfl rfl, h2 3 _ _ rfl rfl, h2 4 _ _ rfl rfl, h2 5 _ _ rfl rfl, h2 6 _ _ rfl rfl, h2 7 _ _ rfl rfl, h2 8 _ _ rfl rfl, ?_⟩
    intro i j hi hi' hj hj' e
    have hinj : ∀ x y, x < 9 → y < 9 → [a1, a2, a3, a4, a5, a6, a7, a8, a9].getD x a1 = [a1, a2, a3, a4, a5, a6, a7, a8, a9].getD y a1 → x = y := by
      intro x y hx hy e
      generalize hl : [a1, a2, a3, a4, a5, a6, a7, a8, a9] = l at *
      have hlen : l.length = 9 := by rw [← hl]; rfl
      have ex : l.getD x a1 = l[x]'(by omega) := by simp [List.getD, List.getElem?_eq_getElem (show x < l.length by omega)]
      have ey : l.getD y a1 = l[y]'(by omega) := by simp [List.getD, List.getElem?_eq_getElem (show y < l.length by omega)]
      rw [ex, ey] at e
      have := (List.getElem_inj hnd' (i := x) (j := y) (h₀ := by simp; omega) (h₁ := by simp; omega)).1 (by simp only [List.getElem_map]; rw [e])
      exact this
    have := hinj (i - 1) (j - 1) (by omega) (by omega) e
    omega
end Go.Proofs.YtlmekdfleciejaaGreatDoor
namespace Go.Proofs.YtlmekdfleciejaaGreatDoor
open Go.RowKit Go.ChangeShapes
theorem Tryz.etName : Tryz.prog.globalNamed "errors.errorType" = some 9 := by kernel_rfl
theorem Tryz.rtRow : (Tryz.prog.cutTypes.find? (·.1 == "internal/reflectlite.rtype")).map (·.2) = some 207 := by kernel_rfl
theorem Tryz.errRow : ((List.range Tryz.prog.types.size).filter fun t => Tryz.prog.rowNamed t [101, 114, 114, 111, 114]) = [51] := by kernel_rfl
theorem handle_cell {W : World} {l : List (String × DataW Unit)} (h' : handlesMet Tryz.prog l W) (hm : ("errors.errorType", Rows.laid_errors_errorType) ∈ l) : W.cell? ⟨9, 0, none⟩ = some errT := by
  obtain ⟨name, u, ty, e1, e2, e3, e4, e5⟩ := h' _ hm
  have en : name = [101, 114, 114, 111, 114] := (Option.some.inj e1).symm
  subst en
  obtain rfl := Option.some.inj (Tryz.rtRow.symm.trans e2)
  have hm : ty ∈ (List.range Tryz.prog.types.size).filter fun t => Tryz.prog.rowNamed t [101, 114, 114, 111, 114] := List.mem_filter.2 ⟨List.mem_range.2 e3, e4⟩
  rw [Tryz.errRow] at hm
  obtain rfl := List.mem_singleton.1 hm
  have hh : typeHandle Tryz.prog 51 = .pointer (some ⟨11, 51, none⟩) := by kernel_rfl
  rw [hh] at e5
  simpa using World.var?_cell Tryz.etName e5 0
theorem pCheck_con (env : Env) (a1 a8 : Addr) (he : ChEnv env a1 a8) (c : ChD) (hc : few_ch c) : Con Tryz.prog env 135 [.agg (chAV c)] (chkAV a1 a8 c) :=
  pCheck_by env a1 a8 he c hc (fun hn i v hv => pVar_con env c (by omega) i v hv (hc.2.1.2 v (List.mem_of_getElem? hv))) (fun hn i s hs => pState_con env a1 a8 he c (by omega) i s hs (hc.2.2.1.2 s (List.mem_of_getElem? hs))) (fun t ht => pTran_con env a1 a8 he c t (hc.2.2.2.2 t ht))
end Go.Proofs.YtlmekdfleciejaaGreatDoor
