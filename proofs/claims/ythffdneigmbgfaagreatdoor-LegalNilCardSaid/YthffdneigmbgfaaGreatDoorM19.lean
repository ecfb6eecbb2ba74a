/- A tree as rows of a call's own; the walk. -/
import Derived.Test.YthffdneigmbgfaaGreatDoorM18
import Derived.Test.YthffdneigmbgfaaGreatDoorM5
import Derived.Test.YthffdneigmbgfaaGreatDoorM7
import Derived.Test.YthffdneigmbgfaaGreatDoorM15
import Derived.Test.YthffdneigmbgfaaGreatDoorM14
import Derived.Test.YthffdneigmbgfaaGreatDoorM12
import Derived.Test.YthffdneigmbgfaaGreatDoorRows
import Derived.ProofKit
import Derived.LaidMore
import Derived.OpenShut
import Derived.LaidLaws
import Derived.Stop.Joined
import Derived.LaidHandle
import Derived.Test.YthffdneigmbgfaaGreatDoorM13
set_option linter.unusedSimpArgs false
namespace Go.Proofs.YthffdneigmbgfaaGreatDoor
open Go.RowKit
set_option maxRecDepth 100000
set_option maxHeartbeats 8000000
theorem pTran_con (env : Env) (a1 a8 : Addr) (he : ChEnv env a1 a8) (c : ChD) (t : TrD) (hf : few_tr t) : Con Tryz.prog env 170 [.agg (chAV c), .agg (trAV t)] (B (tranB c t)) := by
  have f1 := pAt_con env c t.src
  have f3 := tokName_con env t.event (max63 hf.1)
  have f4 := pCode_con env a1 a8 he c t.guard
  have f5 := pActs_con env a1 a8 he c t.acts (acts_few hf.2.2).1 (acts_few hf.2.2).2
  have f6 := pAt_con env c t.target
  have z1 := nil_len t.guard
  by_cases h1 : 0 ≤ t.src
  case neg =>
    rw [show tranB c t = false by unfold tranB normAt at_; rw [if_neg h1]; rfl]
    refine con_of_body Tryz.func170 rfl Tryz.call170 (by rw [Tryz.ntmps170]; simp) ?_
    rw [Tryz.ntmps170, Tryz.results170]
    have F := And.intro chAV.eq_1 <| And.intro trAV.eq_1 <| h1
    repeat (first | refine st ?_ | refine cC f1 ?_)
    exact aR
  obtain ⟨m, hm⟩ := nat_of h1
  by_cases h2 : (m : Int) < (c.states.length : Int)
  case neg =>
    rw [show tranB c t = false by unfold tranB normAt; rw [hm, at_nat, List.getElem?_eq_none (by omega)]; rfl]
    have hm' : (t.src < (c.states.length : Int)) = False := by rw [hm]; simpa using h2
    refine con_of_body Tryz.func170 rfl Tryz.call170 (by rw [Tryz.ntmps170]; simp) ?_
    rw [Tryz.ntmps170, Tryz.results170]
    have F := And.intro chAV.eq_1 <| And.intro trAV.eq_1 <| And.intro h1 <| hm'
    repeat (first | refine st ?_ | refine cC f1 ?_)
    exact aR
  obtain ⟨q, hq, _⟩ := some_at (show m < c.states.length by omega)
  have f2 := pNormal_con env q
  have hr : tranB c t = (normB q && ((t.event == []) || nameB t.event) && ((t.guard == []) || codeB t.guard c.vars.length c.states.length) && actsB c.vars.length c.states.length t.acts && ((t.target == -1) || (decide (0 ≤ t.target) && decide (t.target < c.states.length)))) := by unfold tranB; rw [hm, normAt_nat hq]
  rw [hr]
  rw [hm] at f1
  cases e1 : normB q
  · rw [Bool.false_and, Bool.false_and, Bool.false_and, Bool.false_and]
    refine con_of_body Tryz.func170 rfl Tryz.call170 (by rw [Tryz.ntmps170]; simp) ?_
    rw [Tryz.ntmps170, Tryz.results170]
    have F := And.intro chAV.eq_1 <| And.intro trAV.eq_1 <| And.intro stAV.eq_1 <| And.intro hm <| And.intro h2 <| And.intro hq <| e1
    repeat (first | refine st ?_ | refine cC f1 ?_ | refine cC f2 ?_)
    exact aR
  have body : ((t.event == []) || nameB t.event) = true → Con Tryz.prog env 170 [.agg (chAV c), .agg (trAV t)] (B (((t.guard == []) || codeB t.guard c.vars.length c.states.length) && actsB c.vars.length c.states.length t.acts && ((t.target == -1) || (decide (0 ≤ t.target) && decide (t.target < c.states.length))))) := fun hev => by
    have go : ∀ {b1 b2 : Bool}, (t.event == []) = b1 → (b1 = false → nameB t.event = b2) → (b1 || b2) = true → Con Tryz.prog env 170 [.agg (chAV c), .agg (trAV t)] (B (((t.guard == []) || codeB t.guard c.vars.length c.states.length) && actsB c.vars.length c.states.length t.acts && ((t.target == -1) || (decide (0 ≤ t.target) && decide (t.target < c.states.length))))) := fun {b1 b2} g1 g2 g3 => by
      refine con_of_body Tryz.func170 rfl Tryz.call170 (by rw [Tryz.ntmps170]; simp) ?_
      rw [Tryz.ntmps170, Tryz.results170]
      cases b1 with
      | true =>
        cases e4 : (t.guard == []) with
        | true =>
          cases e6 : actsB c.vars.length c.states.length t.acts with
          | false =>
            have F := And.intro chAV.eq_1 <| And.intro trAV.eq_1 <| And.intro stAV.eq_1 <| And.intro hm <| And.intro h2 <| And.intro hq <| And.intro e1 <| And.intro g1 <| And.intro z1 <| And.intro e4 <| e6
            repeat (first | refine st ?_ | refine cC f1 ?_ | refine cC f2 ?_ | refine cC f3 ?_ | refine cC f4 ?_ | refine cC f5 ?_ | refine cC f6 ?_)
            exact aR
          | true =>
            cases e7 : (t.target == -1) with
            | false =>
              have F := And.intro chAV.eq_1 <| And.intro trAV.eq_1 <| And.intro stAV.eq_1 <| And.intro hm <| And.intro h2 <| And.intro hq <| And.intro e1 <| And.intro g1 <| And.intro z1 <| And.intro e4 <| And.intro e6 <| e7
              repeat (first | refine st ?_ | refine cC f1 ?_ | refine cC f2 ?_ | refine cC f3 ?_ | refine cC f4 ?_ | refine cC f5 ?_ | refine cC f6 ?_)
              exact aR
            | true =>
              have F := And.intro chAV.eq_1 <| And.intro trAV.eq_1 <| And.intro stAV.eq_1 <| And.intro hm <| And.intro h2 <| And.intro hq <| And.intro e1 <| And.intro g1 <| And.intro z1 <| And.intro e4 <| And.intro e6 <| e7
              repeat (first | refine st ?_ | refine cC f1 ?_ | refine cC f2 ?_ | refine cC f3 ?_ | refine cC f4 ?_ | refine cC f5 ?_ | refine cC f6 ?_)
              exact aR
        | false =>
          cases e5 : codeB t.guard c.vars.length c.states.length with
          | false =>
            have F := And.intro chAV.eq_1 <| And.intro trAV.eq_1 <| And.intro stAV.eq_1 <| And.intro hm <| And.intro h2 <| And.intro hq <| And.intro e1 <| And.intro g1 <| And.intro z1 <| And.intro e4 <| e5
            repeat (first | refine st ?_ | refine cC f1 ?_ | refine cC f2 ?_ | refine cC f3 ?_ | refine cC f4 ?_ | refine cC f5 ?_ | refine cC f6 ?_)
            exact aR
          | true =>
            cases e6 : actsB c.vars.length c.states.length t.acts with
            | false =>
              have F := And.intro chAV.eq_1 <| And.intro trAV.eq_1 <| And.intro stAV.eq_1 <| And.intro hm <| And.intro h2 <| And.intro hq <| And.intro e1 <| And.intro g1 <| And.intro z1 <| And.intro e4 <| And.intro e5 <| e6
              repeat (first | refine st ?_ | refine cC f1 ?_ | refine cC f2 ?_ | refine cC f3 ?_ | refine cC f4 ?_ | refine cC f5 ?_ | refine cC f6 ?_)
              exact aR
            | true =>
              cases e7 : (t.target == -1) with
              | false =>
                have F := And.intro chAV.eq_1 <| And.intro trAV.eq_1 <| And.intro stAV.eq_1 <| And.intro hm <| And.intro h2 <| And.intro hq <| And.intro e1 <| And.intro g1 <| And.intro z1 <| And.intro e4 <| And.intro e5 <| And.intro e6 <| e7
                repeat (first | refine st ?_ | refine cC f1 ?_ | refine cC f2 ?_ | refine cC f3 ?_ | refine cC f4 ?_ | refine cC f5 ?_ | refine cC f6 ?_)
                exact aR
              | true =>
                have F := And.intro chAV.eq_1 <| And.intro trAV.eq_1 <| And.intro stAV.eq_1 <| And.intro hm <| And.intro h2 <| And.intro hq <| And.intro e1 <| And.intro g1 <| And.intro z1 <| And.intro e4 <| And.intro e5 <| And.intro e6 <| e7
                repeat (first | refine st ?_ | refine cC f1 ?_ | refine cC f2 ?_ | refine cC f3 ?_ | refine cC f4 ?_ | refine cC f5 ?_ | refine cC f6 ?_)
                exact aR
      | false =>
        have g2 := g2 rfl
        obtain rfl : b2 = true := by simpa using g3
        cases e4 : (t.guard == []) with
        | true =>
          cases e6 : actsB c.vars.length c.states.length t.acts with
          | false =>
            have F := And.intro chAV.eq_1 <| And.intro trAV.eq_1 <| And.intro stAV.eq_1 <| And.intro hm <| And.intro h2 <| And.intro hq <| And.intro e1 <| And.intro g1 <| And.intro g2 <| And.intro z1 <| And.intro e4 <| e6
            repeat (first | refine st ?_ | refine cC f1 ?_ | refine cC f2 ?_ | refine cC f3 ?_ | refine cC f4 ?_ | refine cC f5 ?_ | refine cC f6 ?_)
            exact aR
          | true =>
            cases e7 : (t.target == -1) with
            | false =>
              have F := And.intro chAV.eq_1 <| And.intro trAV.eq_1 <| And.intro stAV.eq_1 <| And.intro hm <| And.intro h2 <| And.intro hq <| And.intro e1 <| And.intro g1 <| And.intro g2 <| And.intro z1 <| And.intro e4 <| And.intro e6 <| e7
              repeat (first | refine st ?_ | refine cC f1 ?_ | refine cC f2 ?_ | refine cC f3 ?_ | refine cC f4 ?_ | refine cC f5 ?_ | refine cC f6 ?_)
              exact aR
            | true =>
              have F := And.intro chAV.eq_1 <| And.intro trAV.eq_1 <| And.intro stAV.eq_1 <| And.intro hm <| And.intro h2 <| And.intro hq <| And.intro e1 <| And.intro g1 <| And.intro g2 <| And.intro z1 <| And.intro e4 <| And.intro e6 <| e7
              repeat (first | refine st ?_ | refine cC f1 ?_ | refine cC f2 ?_ | refine cC f3 ?_ | refine cC f4 ?_ | refine cC f5 ?_ | refine cC f6 ?_)
              exact aR
        | false =>
          cases e5 : codeB t.guard c.vars.length c.states.length with
          | false =>
            have F := And.intro chAV.eq_1 <| And.intro trAV.eq_1 <| And.intro stAV.eq_1 <| And.intro hm <| And.intro h2 <| And.intro hq <| And.intro e1 <| And.intro g1 <| And.intro g2 <| And.intro z1 <| And.intro e4 <| e5
            repeat (first | refine st ?_ | refine cC f1 ?_ | refine cC f2 ?_ | refine cC f3 ?_ | refine cC f4 ?_ | refine cC f5 ?_ | refine cC f6 ?_)
            exact aR
          | true =>
            cases e6 : actsB c.vars.length c.states.length t.acts with
            | false =>
              have F := And.intro chAV.eq_1 <| And.intro trAV.eq_1 <| And.intro stAV.eq_1 <| And.intro hm <| And.intro h2 <| And.intro hq <| And.intro e1 <| And.intro g1 <| And.intro g2 <| And.intro z1 <| And.intro e4 <| And.intro e5 <| e6
              repeat (first | refine st ?_ | refine cC f1 ?_ | refine cC f2 ?_ | refine cC f3 ?_ | refine cC f4 ?_ | refine cC f5 ?_ | refine cC f6 ?_)
              exact aR
            | true =>
              cases e7 : (t.target == -1) with
              | false =>
                have F := And.intro chAV.eq_1 <| And.intro trAV.eq_1 <| And.intro stAV.eq_1 <| And.intro hm <| And.intro h2 <| And.intro hq <| And.intro e1 <| And.intro g1 <| And.intro g2 <| And.intro z1 <| And.intro e4 <| And.intro e5 <| And.intro e6 <| e7
                repeat (first | refine st ?_ | refine cC f1 ?_ | refine cC f2 ?_ | refine cC f3 ?_ | refine cC f4 ?_ | refine cC f5 ?_ | refine cC f6 ?_)
                exact aR
              | true =>
                have F := And.intro chAV.eq_1 <| And.intro trAV.eq_1 <| And.intro stAV.eq_1 <| And.intro hm <| And.intro h2 <| And.intro hq <| And.intro e1 <| And.intro g1 <| And.intro g2 <| And.intro z1 <| And.intro e4 <| And.intro e5 <| And.intro e6 <| e7
                repeat (first | refine st ?_ | refine cC f1 ?_ | refine cC f2 ?_ | refine cC f3 ?_ | refine cC f4 ?_ | refine cC f5 ?_ | refine cC f6 ?_)
                exact aR
    exact go (b1 := (t.event == [])) (b2 := nameB t.event) rfl (fun _ => rfl) hev
  cases e2 : (t.event == [])
  · cases e3 : nameB t.event
    · rw [Bool.or_false, Bool.and_false, Bool.false_and, Bool.false_and, Bool.false_and]
      refine con_of_body Tryz.func170 rfl Tryz.call170 (by rw [Tryz.ntmps170]; simp) ?_
      rw [Tryz.ntmps170, Tryz.results170]
      have F := And.intro chAV.eq_1 <| And.intro trAV.eq_1 <| And.intro stAV.eq_1 <| And.intro hm <| And.intro h2 <| And.intro hq <| And.intro e1 <| And.intro e2 <| e3
      repeat (first | refine st ?_ | refine cC f1 ?_ | refine cC f2 ?_ | refine cC f3 ?_)
      exact aR
    · simp only [Bool.or_true, Bool.true_and]
      exact body (by rw [e2, e3]; rfl)
  · simp only [Bool.true_or, Bool.true_and]
    exact body (by rw [e2]; rfl)
end Go.Proofs.YthffdneigmbgfaaGreatDoor
set_option linter.unusedSimpArgs false
namespace Go.Proofs.YthffdneigmbgfaaGreatDoor
open Go.RowKit
set_option maxRecDepth 100000
set_option maxHeartbeats 8000000
end Go.Proofs.YthffdneigmbgfaaGreatDoor
namespace Go.Proofs.YthffdneigmbgfaaGreatDoor
open Go.RowKit Go.ChangeShapes
section
variable {P : Program} {W : World} {nm : String} {ti tp te ts : TypeId} {ms : Array (String × TypeId)} {f : Field}
theorem laid_list (hi : P.underlying ti = some (.interface ms)) (hrow : ∀ u, P.typeName? 3 u = some nm → u = tp)
    (hp : P.underlying tp = some (.pointer te)) (he : P.underlying te = some (.struct #[f])) (hft : f.type = ts) (hfo : f.offset = 0) (hs : P.underlying ts = some .string) (hc : P.cellsOf te = 1) (hcs : P.cellsOf ts = 1) :
    ∀ (l : List (String × List UInt8)) (gs : List Nat) (ps : List MemPlace), DataW.LaidVars P W (l.map fun x => (x.1, .iface nm (.ptr (.agg [.lit (.string x.2)])))) ps →
      l.map (fun x => P.globalNamed x.1) = gs.map some → (∀ g ∈ gs, (P.globals[g]?).map (·.type) = some ti) →
      (∀ b off, MemPlace.cell b off ∈ ps → (∃ c t, W.heap[b]? = some (.cells c t (0, 0))) ∧ ∀ u v, W.cell? ⟨b, off, none⟩ = some (.iface u v) → Value.okWide P W .any 0 u v) →
      ∃ adl : List Addr, adl.length = gs.length ∧ (∀ (i : Nat) (g : Nat) (a : Addr), gs[i]? = some g → adl[i]? = some a → W.cell? ⟨g, 0, none⟩ = some (.iface tp (.pointer (some a))) ∧ ∃ ca ta, W.heap[a.block]? = some (.cells ca ta (0, 0))) ∧
        (adl.map fun a => MemPlace.cell a.block a.off).Sublist ps
  | [], gs, ps, _, hg, _, _ => by
    obtain rfl : gs = [] := by cases gs <;> simp_all
    exact ⟨[], rfl, by simp, by simp⟩
  | (n, text) :: l, gs, ps, hv, hg, ht, hrows => by
    obtain ⟨g, gs, rfl⟩ : ∃ g gs', gs = g :: gs' := by cases gs <;> simp_all
    simp only [List.map_cons, List.cons.injEq] at hg
    obtain ⟨g0, t0, cs0, f0, p0, q0, hg0, ht0, hv0, hd0, hrest, rfl⟩ := hv
    obtain rfl := Option.some.inj (hg.1.symm.trans hg0)
    obtain rfl := Option.some.inj ((ht g (by simp)).symm.trans ht0)
    obtain ⟨l0⟩ := cs0
    have ok0 : ∀ u v, l0 = [.iface u v] → Value.okWide P W .any 0 u v := fun u v e => by
      subst e
      exact (hrows g 0 (by simp [MemPlace.row])).2 u v (by simpa using World.var?_cell hg0 hv0 0)
    obtain ⟨a0, s0, rfl, _, _, _, rfl⟩ := errorString_of_trod hi hrow hp he hft hfo hs hc hcs hd0 ok0
    obtain ⟨adl, h1, h2, h3⟩ := laid_list hi hrow hp he hft hfo hs hc hcs l gs q0 hrest hg.2 (fun g' h => ht g' (by simp [h])) (fun b off h => hrows b off (List.mem_append_right _ h))
    refine ⟨a0 :: adl, by simp [h1], ?_, ?_⟩
    · intro i g' a' hg' ha'
      cases i with
      | zero =>
        simp at hg' ha'
        subst hg' ha'
        exact ⟨by simpa using World.var?_cell hg0 hv0 0, (hrows a0.block a0.off (by simp [MemPlace.row])).1⟩
      | succ i => exact h2 i g' a' (by simpa using hg') (by simpa using ha')
    · simp only [List.map_cons, MemPlace.row]
      exact List.Sublist.trans (List.Sublist.append (by simp : [MemPlace.cell a0.block a0.off].Sublist _) h3) (List.Sublist.append (List.sublist_append_right _ _) (List.Sublist.refl _))
end
theorem Tryz.row160 : ∀ u, Tryz.prog.typeName? 3 u = some "*errors.errorString" → u = 226 :=
  fun u hu => typeName_ptr_named (nm := "errors.errorString") (by kernel_rfl) (by kernel_rfl) (by decide) u hu
section
open Go.WideShapes
variable {H : Type} {enc : TypeId × Value → H} {P : Program}
theorem trodAll_kept (hl : laidOutB P = true) {W W' : World} (hb : Below W.heap.size W W') : ∀ (ts : List TypeId) (vs : List Value) (ds : List (DataW H)) (ps : List MemPlace),
    (∀ t ∈ ts, P.readableRec t = true ∧ t < P.types.size) → (∀ x ∈ ps, x.block < W.heap.size) → DataW.TrodAll enc P W 0 (fun _ => true) true ts vs ds ps → DataW.TrodAll enc P W' 0 (fun b => decide (b < W.heap.size)) true ts vs ds ps
  | [], [], [], _, _, _, h => h
  | t :: ts, v :: vs, d :: ds, ps, ht, hp, h => by
    obtain ⟨p, q, h1, h2, rfl⟩ := h
    have r := ht t (by simp)
    exact ⟨p, q, Below.trod hl r.1 r.2 h1 hb (fun x hx => hp x (List.mem_append_left _ hx)), trodAll_kept hl hb ts vs ds q (fun t' h' => ht t' (by simp [h'])) (fun x hx => hp x (List.mem_append_right _ hx)) h2, rfl⟩
  | [], _ :: _, _, _, _, _, h => by cases h
  | [], [], _ :: _, _, _, _, h => by cases h
  | _ :: _, [], _, _, _, _, h => by cases h
  | _ :: _, _ :: _, [], _, _, _, h => by cases h
theorem law_post (hl : laidOutB P = true) {f : Func} {s : ChangeSpec} {tb : TypeId} {W W' : World} {args : Array Value} {ds gs : List (DataW H)} {before : List MemPlace}
    (hpar : ∀ t ∈ f.params.toList, P.readableRec t = true ∧ t < P.types.size) (hrt : f.resultTypes = #[tb]) (htb : P.underlying tb = some .bool)
    (hW : DataW.Whole enc P f.params.toList s.vars false W args.toList ds gs before) (hv : s.vars = [])
    (hs : gs = [] → s.fn H (ds ++ gs) = { results := [.lit (.bool true)], args := ds }) (hb : Below W.heap.size W W') : s.post enc P f false true false false W args (.bool true) W' := by
  have hlt : ∀ p ∈ before, p.block < W.heap.size := fun p hp => hW.lt p hp
  have hW' := hW
  obtain ⟨p, q, hA, hV, rfl, _, _⟩ := hW
  rw [hv] at hV
  obtain ⟨rfl, rfl⟩ := trodVars_none hV
  have hs := hs rfl
  rw [List.append_nil] at hlt
  refine ⟨ds, [], p ++ [], [], p, [], hW', ?_, ?_, ?_, ?_, fun h => by cases h⟩
  · rw [hs, hrt]
    exact trodAll_mk1 (shut_bool htb true)
  · rw [hs]
    exact trodAll_kept hl hb _ _ _ _ hpar hlt hA
  · rw [hs, hv]
    rfl
  · exact World.keptBut_mono (fun x hx => ⟨hx, .inr (.inl (by simpa using hx))⟩) (hb.frame (· ∈ p ++ []))
end
section
open Go.WideShapes
variable {H : Type} {enc : TypeId × Value → H} {P : Program} {w : World} {base : Nat} {spare : Nat → Bool} {held : Bool}
end
end Go.Proofs.YthffdneigmbgfaaGreatDoor
namespace Go.Proofs.YthffdneigmbgfaaGreatDoor
open Go.RowKit Go.ChangeShapes
theorem pCheck_con (env : Env) (a1 a8 : Addr) (he : ChEnv env a1 a8) (c : ChD) (hc : few_ch c) : Con Tryz.prog env 129 [.agg (chAV c)] (chkAV a1 a8 c) :=
  pCheck_by env a1 a8 he c hc (fun hn i v hv => pVar_con env c (by omega) i v hv (hc.2.1.2 v (List.mem_of_getElem? hv))) (fun hn i s hs => pState_con env a1 a8 he c (by omega) i s hs (hc.2.2.1.2 s (List.mem_of_getElem? hs))) (fun t ht => pTran_con env a1 a8 he c t (hc.2.2.2.2 t ht))
end Go.Proofs.YthffdneigmbgfaaGreatDoor
set_option linter.unusedSimpArgs false
namespace Go.Proofs.YthffdneigmbgfaaGreatDoor
open Go.RowKit
set_option maxRecDepth 100000
set_option maxHeartbeats 4000000
def rankAll : List Nat → Nat → List Nat → List Nat
  | [], _, rk => rk
  | k :: l, n, rk => rankAll l (n + 1) (rk.set k n)
theorem rankAll_len : ∀ (l : List Nat) (n : Nat) (rk : List Nat), (rankAll l n rk).length = rk.length
  | [], _, _ => rfl
  | k :: l, n, rk => by unfold rankAll; rw [rankAll_len, List.length_set]
theorem rankAll_app : ∀ (l1 l2 : List Nat) (n : Nat) (rk : List Nat), rankAll (l1 ++ l2) n rk = rankAll l2 (n + l1.length) (rankAll l1 n rk)
  | [], _, _, _ => rfl
  | k :: l1, l2, n, rk => by
    show rankAll (l1 ++ l2) (n + 1) (rk.set k n) = rankAll l2 (n + (l1.length + 1)) (rankAll l1 (n + 1) (rk.set k n))
    rw [rankAll_app, Nat.add_assoc, Nat.add_comm 1]
def TR (ps ks ms bs : List (List AV)) (lf : Value) (g : Nat → Nat) (rk l : List Nat) : List (Nat × Row) :=
  [(1000, ⟨7, [[.seq 1 ps, .seq 1 ks, .seq 1 ms, .seq 1 bs, .row 1001 (g 1001), .row 1002 (g 1002), .lit lf]], 133, false⟩), (1001, ⟨1, rk.map natAV, 3, true⟩), (1002, ⟨1, l.map natAV, 3, true⟩)]
def wkTo (c : ChD) (K : List Nat) (j : Nat) : List Nat := (K.take j).flatMap fun k => k :: walkL c k
theorem wkTo_succ {c : ChD} {K : List Nat} {j k : Nat} (h : K[j]? = some k) : wkTo c K (j + 1) = wkTo c K j ++ k :: walkL c k := by
  unfold wkTo
  rw [List.take_add_one, h, List.flatMap_append]
  simp
theorem wkTo_all {c : ChD} (K : List Nat) : wkTo c K K.length = K.flatMap fun k => k :: walkL c k := by
  unfold wkTo
  rw [List.take_length]
theorem wkTo_le {c : ChD} (K : List Nat) (j : Nat) : (wkTo c K j).length ≤ (K.flatMap fun k => k :: walkL c k).length := by
  conv => rhs; rw [← List.take_append_drop j K, List.flatMap_append, List.length_append]
  exact Nat.le_add_right _ _
def WalkC (P : Program) (env : Env) (f : FuncId) (c : ChD) (ps ks ms bs : List (List AV)) (lf : Value) (i : Int) (l rk : List Nat) : Prop :=
  ConI P env f [1000, 1001, 1002] (fun k => k == 1002) (fun g => [.loc 1000 (g 1000) 0 0, .agg (chAV c), I i]) (fun g => TR ps ks ms bs lf g rk l) (fun g => TR ps ks ms bs lf g (rankAll (walkL c i) l.length rk) (l ++ walkL c i)) (fun _ => .lit (.tuple #[]))
theorem walk_step (env : Env) (c : ChD) (hc : Right c) (ps ks ms bs : List (List AV)) (lf : Value) (i : Int) (l rk : List Nat) (hi : -1 ≤ i) (hrk : rk.length = c.states.length) (hfew : l.length + (walkL c i).length ≤ 1000000)
    (ih : ∀ k ∈ kidsL c i false, ∀ l rk, rk.length = c.states.length → l.length + (walkL c k).length ≤ 1000000 → WalkC Tryz.prog env 131 c ps ks ms bs lf k l rk) : WalkC Tryz.prog env 131 c ps ks ms bs lf i l rk := by
  unfold WalkC at *
  · have hlen := hc.few
    have f0 := pKids_con env c i (by omega)
    rw [walk_eq hc hi] at hfew ⊢
    have hK32 : (kidsL c i false).length ≤ 32 := Nat.le_trans (kidsTo_len c i false _) hlen
    generalize hK : kidsL c i false = K at *
    refine ⟨Tryz.call131, _, _, Tryz.func131, rfl, (by intro _; rw [Tryz.ntmps131]; simp), ?_⟩
    intro vs esc hesc
    rw [Tryz.ntmps131, Tryz.results131]
    have e0 := hesc 1000 (by simp)
    have e1 := hesc 1001 (by simp)
    have e2 := hesc 1002 (by simp)
    have F := And.intro e0 <| And.intro e1 <| And.intro e2 <| chAV.eq_1
    repeat (first | refine oO rfl (by simp only [go_sem, TR, F]; exact ⟨rfl, rfl⟩) ?_ | refine gR ?_ | refine gO ?_ | refine oC rfl (f0) (by simp only [go_sem, TR, F]; exact iR) (by simp only [go_sem, TR, F]; exact ⟨rfl, rfl⟩) ?_ | refine oZ (d_end ?_) | refine oZ ?_ | refine oS ?_ | refine gT ?_ | refine gD Tryz.mixed ?_ | refine oB ?_ | refine oK ?_ | (refine oX ?_; simp only [thenA, blockA, ↓reduceIte, Nat.reduceEqDiff, reduceCtorEq]) | refine oY (by simp only [go_sem, TR, F]; exact iR) ?_ | refine oN (by simp only [go_sem, TR, F]; exact iR) ?_)
    refine awp_loopH (D := Nat) (fun j vs' => [(0, .loc 1000 (vs' 1000) 0 0), (4, .loc 4 (vs' 4) 0 0), (10, .row 10 (vs' 10)), (11, I K.length), (12, I j)]) (fun j vs' => TR ps ks ms bs lf vs' (rankAll (wkTo c K j) l.length rk) (l ++ wkTo c K j) ++ [(4, ⟨5, [chAV c], 26, false⟩), (10, ⟨1, K.map natAV, 3, true⟩)]) (fun j vs' esc' => (j ≤ K.length ∧ vs' 1000 = vs 1000 ∧ vs' 1001 = vs 1001) ∧ esc' 1000 = false ∧ esc' 1001 = false ∧ esc' 1002 = false) (fun j => K.length - j) 0 ?_ ?_ ?_ ?_
    · exact ⟨⟨Nat.zero_le _, by simp only [go_sem], by simp only [go_sem]⟩, by simp only [go_sem, e0], by simp only [go_sem, e1], by simp only [go_sem, e2]⟩
    · (simp only [go_sem, TR, F])
    · have F := chAV.eq_1
      (simp only [go_sem, TR, F])
      refine ⟨rfl, ?_⟩
      show _ = (⟨1, List.map natAV (l ++ []), 3, true⟩ : Row)
      rw [List.append_nil]
    try clear e0 e1 e2
    rintro j ws esc' ⟨⟨hj, v0, v1⟩, e0, e1, e2⟩
    by_cases hlt : j < K.length
    · obtain ⟨k, hk⟩ : ∃ k, K[j]? = some k := ⟨K[j], List.getElem?_eq_getElem hlt⟩
      have hkm : k ∈ kidsL c i false := by rw [hK]; exact List.mem_of_getElem? hk
      have hg := kid_gt hc hkm
      have hnext := wkTo_succ (c := c) hk
      have hle := wkTo_le (c := c) K (j + 1)
      have hrl := rankAll_len (wkTo c K j) l.length rk
      have hra := rankAll_app (wkTo c K j) (k :: walkL c k) l.length rk
      rw [hnext] at hle
      rw [List.length_append, List.length_cons] at hle
      generalize rankAll (wkTo c K j) l.length rk = rk1 at *
      have f1 := ih k (List.mem_of_getElem? hk) (l ++ wkTo c K j ++ [k]) (rk1.set k (l ++ wkTo c K j).length) (by rw [List.length_set, hrl, hrk]) (by simp only [List.length_append, List.length_cons, List.length_nil]; omega)
      have k1 := nlt hlt
      have k2 := wrap_succ hlt (by omega)
      have k3 : ((k : Nat) : Int) < (rk1.length : Int) := by rw [hrl, hrk]; omega
      obtain ⟨r0, hr0⟩ : ∃ r0, rk1[k]? = some r0 := ⟨rk1[k]'(by omega), List.getElem?_eq_getElem _⟩
      have hf : Fits (l.length + (wkTo c K j).length + 1) 8 := ⟨by omega, by omega⟩
      have F := And.intro e0 <| And.intro e1 <| And.intro e2 <| And.intro chAV.eq_1 <| And.intro k1 <| And.intro k2 <| And.intro k3 <| And.intro hk <| And.intro hf <| And.intro natAV.eq_1 <| hr0
      have hra2 : rankAll (wkTo c K (j + 1)) l.length rk = rankAll (walkL c k) (l.length + (wkTo c K j).length + 1) (rk1.set k (l.length + (wkTo c K j).length)) := by rw [hnext, hra]; rfl
      repeat (first | refine oO rfl (by simp only [go_sem, TR, List.map_append, List.map_set, F]; exact ⟨rfl, rfl⟩) ?_ | refine gR ?_ | refine gO ?_ | refine oZ (d_end ?_) | refine oZ ?_ | refine oS ?_ | refine gT ?_ | refine gD Tryz.mixed ?_ | refine oB ?_ | refine oK ?_ | (refine oX ?_; simp only [thenA, blockA, ↓reduceIte, Nat.reduceEqDiff, reduceCtorEq]) | refine oY (by simp only [go_sem, TR, List.map_append, List.map_set, F]; exact iR) ?_ | refine oN (by simp only [go_sem, TR, List.map_append, List.map_set, F]; exact iR) ?_)
      refine aops_inl [(1000, 1000), (1001, 1001), (1002, 1002)] rfl (f1) (by decide) (by decide) (by simp only [go_sem, TR, List.map_append, List.map_set, F] <;> rfl) (by simp only [go_sem, TR, List.map_append, List.map_set, F, and_self] <;> trivial) (by simp only [go_sem, TR, List.map_append, List.map_set, F, and_self] <;> trivial) (by intro o; simp only [go_sem, TR, List.map_append, List.map_set, F, behind, and_self] <;> trivial) (by intro o; simp only [go_sem, TR, List.map_append, List.map_set, F] <;> rfl) (by simp only [go_sem, TR, List.map_append, List.map_set, F, behind]; exact iR) (by simp only [go_sem, TR, List.map_append, List.map_set, F, behind]; exact iR) ?_
      repeat (first | refine oO rfl (by simp only [go_sem, TR, List.map_append, List.map_set, F]; exact ⟨rfl, rfl⟩) ?_ | refine gR ?_ | refine gO ?_ | refine oZ (d_end ?_) | refine oZ ?_ | refine oS ?_ | refine gT ?_ | refine gD Tryz.mixed ?_ | refine oB ?_ | refine oK ?_ | (refine oX ?_; simp only [thenA, blockA, ↓reduceIte, Nat.reduceEqDiff, reduceCtorEq]) | refine oY (by simp only [go_sem, TR, List.map_append, List.map_set, F]; exact iR) ?_ | refine oN (by simp only [go_sem, TR, List.map_append, List.map_set, F]; exact iR) ?_)
      refine ⟨j + 1, ⟨⟨hlt, ?_, ?_⟩, ?_, ?_, ?_⟩, ?_, ?_, by omega⟩
      · simp only [go_sem]
        exact v0
      · simp only [go_sem]
        exact v1
      · simp only [go_sem, e0]
      · simp only [go_sem, e1]
      · simp only [go_sem, e2]
      · (simp only [go_sem, TR, List.map_append, List.map_set, F])
      · have F := And.intro chAV.eq_1 <| And.intro natAV.eq_1 <| And.intro hra2 <| hnext
        (simp only [go_sem, TR, List.map_append, List.map_set, List.append_assoc, F])
        rw [hra]
        rfl
    · obtain rfl : j = K.length := by omega
      have k1 : ¬ (K.length : Int) < (K.length : Int) := by omega
      have hall := wkTo_all (c := c) K
      have F := And.intro e0 <| And.intro e1 <| And.intro e2 <| And.intro chAV.eq_1 <| And.intro k1 <| And.intro hall <| And.intro v0 <| v1
      repeat (first | refine oO rfl (by simp only [go_sem, TR, F]; exact ⟨rfl, rfl⟩) ?_ | refine gR ?_ | refine gO ?_ | refine oZ (d_end ?_) | refine oZ ?_ | refine oS ?_ | refine gT ?_ | refine gD Tryz.mixed ?_ | refine oB ?_ | refine oK ?_ | (refine oX ?_; simp only [thenA, blockA, ↓reduceIte, Nat.reduceEqDiff, reduceCtorEq]) | refine oY (by simp only [go_sem, TR, F]; exact iR) ?_ | refine oN (by simp only [go_sem, TR, F]; exact iR) ?_)
      (refine retI_end ?_ ?_ <;> simp only [go_sem, TR, F, implies_true, and_self, imp_self, false_implies, AV.tuple.injEq, exists_eq_left', ne_eq])
theorem walk_con (env : Env) (c : ChD) (hc : Right c) (ps ks ms bs : List (List AV)) (lf : Value) : ∀ (n : Nat) (i : Int) (l rk : List Nat), -1 ≤ i → (c.states.length : Int) ≤ i + n → rk.length = c.states.length → l.length + (walkL c i).length ≤ 1000000 → WalkC Tryz.prog env 131 c ps ks ms bs lf i l rk
  | 0, i, l, rk, hi, hn, hrk, hfew => walk_step env c hc ps ks ms bs lf i l rk hi hrk hfew fun k hk => by have := kid_gt hc hk; omega
  | n + 1, i, l, rk, hi, hn, hrk, hfew => walk_step env c hc ps ks ms bs lf i l rk hi hrk hfew fun k hk l rk h1 h2 => by have := kid_gt hc hk; exact walk_con env c hc ps ks ms bs lf n k l rk (by omega) (by omega) h1 h2
end Go.Proofs.YthffdneigmbgfaaGreatDoor
