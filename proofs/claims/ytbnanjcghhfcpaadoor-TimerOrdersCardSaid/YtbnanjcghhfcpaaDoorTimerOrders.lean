/- TimerOrders returns true for any three dues, and leaves its arguments as they were (the tied card). Condition: the nine listed error variables hold what the program's text lays. -/
import Derived.Test.YtbnanjcghhfcpaaDoorCards
import Derived.Test.YtbnanjcghhfcpaaDoorTie
import Derived.Test.YtbnanjcghhfcpaaDoorTG
import Derived.Test.YtbnanjcghhfcpaaDoorLaid
import Derived.Lib.SmallJoins
import Derived.SevenTiedAt
import Derived.SizedLaws
namespace Go.Proofs.YtbnanjcghhfcpaaDoor.lawOrders
open Go.ChangeShapes Go.WideShapes Go.ChangeAt Go.WideMaps Go.WideElems Go.RowKit Go.Joins
open Go.ChangeMaps (open_string)

theorem own : ownKnob Tryd.prog.godebug = none := by kernel_rfl
theorem laidOut : laidOutB Tryd.prog = true := by kernel_rfl
theorem params : ∀ t ∈ Tryd.f3.params.toList, Tryd.prog.readableRec t = true ∧ t < Tryd.prog.types.size := by
  have hall : (Tryd.f3.params.toList.all fun u => Tryd.prog.readableRec u && decide (u < Tryd.prog.types.size)) = true := by kernel_rfl
  intro t ht
  simpa using List.all_eq_true.1 hall t ht

theorem door_met (os : Os) (args : Array Value) : laidMetH Tryd.prog Rows.timerOrdersRow.laid ((World.doorLaid Tryd.prog 180 os).forCall (fun _ _ => 0) ⟨#[], args, []⟩).memory :=
  laidMetH_of_parts3 (fuel := 8) (laidMet_of_run' 8 (by kernel_rfl) (by kernel_rfl)) (by kernel_rfl) (by kernel_rfl)

set_option maxRecDepth 100000 in
/-- The step from the walk to the row's words. -/
theorem contract (H : Type) (enc : TypeId × Value → H) (W : World) (base : Nat) (args : Array Value) (ds gs : List (DataW H)) (before : List MemPlace)
    (hval : ∀ (j : Nat) t v, Tryd.f3.params[j]? = some t → args[j]? = some v → Value.okWide Tryd.prog W .any base t v)
    (hW : DataW.Whole enc Tryd.prog Tryd.f3.params.toList Rows.timerOrdersSpec.vars false W args.toList ds gs before) (hL : laidMetH Tryd.prog Rows.timerOrdersRow.laid W)
    (hsz : ((DataW.weightsEach Tryd.prog (Tryd.f3.params.toList ++ DataSpec.varTypes Tryd.prog Rows.timerOrdersSpec.plain) (ds ++ gs)).all fun x => decide (x ≤ reachBytes)) = true) :
    Calls Tryd.prog 3 args W fun e W' => ∃ v, e = .returned v ∧ Rows.timerOrdersSpec.post enc Tryd.prog Tryd.f3 false true false false W args v W' := by
  have hW' := hW
  have _u1 := hL
  have _u2 := hsz
  obtain ⟨p, q, hA0, hV, rfl, hfz, hnd⟩ := hW
  have hA : DataW.TrodAll enc Tryd.prog W 0 (fun _ => true) true Tryd.f3.params.toList args.toList ds p := hA0
  rw [Tryd.params3] at hA hval
  obtain ⟨v0, v1, v2, d0, d1, d2, p0, p1, p2, rfl, rfl, rfl, h0, h1, h2⟩ := trodAll_three hA
  obtain ⟨rfl, rfl⟩ := trodVars_none hV
  have fin : Calls Tryd.prog 3 #[v0, v1, v2] W (fun e w' => e = .returned (.bool true) ∧ Below W.heap.size W w') →
      Calls Tryd.prog 3 #[v0, v1, v2] W fun e W' => ∃ v, e = .returned v ∧ Rows.timerOrdersSpec.post enc Tryd.prog Tryd.f3 false true false false W #[v0, v1, v2] v W' :=
    fun h => h.mono fun e W' ⟨he, hb⟩ => ⟨_, he, law_post laidOut params (by kernel_rfl) Tryd.underlying4 hW' rfl (fun _ => rfl) hb⟩
  obtain ⟨x0, x1, x2, y0, y1, y2, n, rfl, rfl, rfl, t0, t1, t2⟩ := open_agg3 Tryd.underlying23 (by kernel_rfl) (by kernel_rfl) (hval 0 _ v0 rfl rfl) h0
  obtain ⟨z0, z1, z2, u0, u1, u2, m, rfl, rfl, rfl, r0, r1, r2⟩ := open_agg3 Tryd.underlying23 (by kernel_rfl) (by kernel_rfl) (hval 1 _ v1 rfl rfl) h1
  obtain ⟨g0, g1, g2, l0, l1, l2, k, rfl, rfl, rfl, q0, q1, q2⟩ := open_agg3 Tryd.underlying23 (by kernel_rfl) (by kernel_rfl) (hval 2 _ v2 rfl rfl) h2
  obtain ⟨a0, e0, -, -⟩ := DataW.trod_int Tryd.underlying3 t0
  obtain ⟨a1, e1, -, -⟩ := DataW.trod_int Tryd.underlying3 t1
  obtain ⟨a2, e2, -, hs⟩ := DataW.trod_string Tryd.underlying9 t2
  obtain ⟨b0, e3, -, -⟩ := DataW.trod_int Tryd.underlying3 r0
  obtain ⟨b1, e4, -, -⟩ := DataW.trod_int Tryd.underlying3 r1
  obtain ⟨b2, e5, -, -⟩ := DataW.trod_string Tryd.underlying9 r2
  obtain ⟨c0, e6, -, -⟩ := DataW.trod_int Tryd.underlying3 q0
  obtain ⟨c1, e7, -, -⟩ := DataW.trod_int Tryd.underlying3 q1
  obtain ⟨c2, e8, -, -⟩ := DataW.trod_string Tryd.underlying9 q2
  simp only [List.cons.injEq, and_true] at e0 e1 e2 e3 e4 e5 e6 e7 e8
  subst e0 e1 e2 e3 e4 e5 e6 e7 e8
  obtain ⟨ad, hS⟩ := sents_of_nine hL
  have hcon := torders_con ad ⟨fun _ => True, fun _ _ _ _ => trivial⟩ ⟨a0, a1, a2.data.toList⟩ ⟨b0, b1, b2.data.toList⟩ ⟨c0, c1, c2.data.toList⟩ (by simpa [maxLen] using hs)
  exact fin (con_run' hcon (errEnv_ok hS trivial) ⟨due_rv _ _ _, due_rv _ _ _, due_rv _ _ _, trivial⟩)

set_option maxRecDepth 100000 in
theorem lifted (os : Os) (started : os.Started) (H : Type) (enc : TypeId × Value → H) :
    ReturnsInHanded {} Tryd.checked os 3 .any (fun w args => (Rows.timerOrdersSpec.pre enc Tryd.prog Tryd.f3 [] false w args ∧ laidMetH Tryd.prog Rows.timerOrdersRow.laid w) ∧ sizedMet enc Tryd.prog Tryd.f3 (OpenSpec.ofChange Rows.timerOrdersSpec) false w args)
      (Rows.timerOrdersSpec.post enc Tryd.prog Tryd.f3 false true false false) := by
  refine returnsInHanded_of_change_and (C := Tryd.checked) (X := fun w _ => laidMetH Tryd.prog Rows.timerOrdersRow.laid w) (fun _ _ _ hh h => h.of_heap hh) own started (by kernel_rfl) Tryd.func3
    (ChangeSpec.witness_shaped (enc := enc) (C := Tryd.checked) (os := os) (X := fun w _ => laidMetH Tryd.prog Rows.timerOrdersRow.laid w) false (World.doorLaid Tryd.prog 180 os) #[.agg #[.int .i64 0, .int .i64 0, .string ⟨#[]⟩], .agg #[.int .i64 0, .int .i64 0, .string ⟨#[]⟩], .agg #[.int .i64 0, .int .i64 0, .string ⟨#[]⟩]] 8 rfl (World.shaped_of_RefB (by kernel_rfl) (by kernel_rfl)) (by kernel_rfl) (by kernel_rfl) (by kernel_rfl) (door_met os _)) ?_
  intro W base args ds gs before hval0 hW hdom hsz hL hass
  exact contract H enc W base args ds gs before hval0 hW hL hsz

theorem said : Rows.TimerOrdersSaid :=
  OpenClaim.holds_of_wide 3 Tryd.f3 rfl rfl rfl rfl rfl rfl rfl ⟨rfl, rfl, rfl, rfl, rfl⟩ rfl rfl rfl rfl rfl (by kernel_rfl) Tryd.func3 (by kernel_rfl)
    (of_decide_eq_true (by kernel_rfl)) (by unfold Func.isWrapper; first | (rw [if_pos (by decide +kernel)]; kernel_rfl) | (rw [if_neg (by decide +kernel)]; exact ⟨rfl, rfl⟩))
    (fun os started H enc _ => lifted os started H enc)

theorem plain (f : FuncId) (fn : Func) (hf : Tryd.pinned.checked.prog.funcNamed "scrinium/scriniumlaw33.TimerOrders" = some f) (hfn : Tryd.pinned.checked.prog.funcs[f]? = some fn) :
    true = Tryd.pinned.checked.prog.looks [] ∧ ∀ (j : Nat) t, fn.params[j]? = some t → Tryd.pinned.checked.prog.wantsStandIn t = false := by
  obtain rfl : f = 3 := Option.some.inj ((show Tryd.prog.funcNamed "scrinium/scriniumlaw33.TimerOrders" = some 3 by kernel_rfl).symm.trans hf) |>.symm
  obtain rfl : fn = Tryd.f3 := (Option.some.inj (Tryd.func3.symm.trans hfn)).symm
  refine ⟨by kernel_rfl, fun j t ht => ?_⟩
  have hall : (Tryd.f3.params.toList.all fun u => !Tryd.prog.wantsStandIn u) = true := by kernel_rfl
  have := List.all_eq_true.1 hall t (by simpa using Array.mem_of_getElem? ht)
  exact (show Tryd.prog.wantsStandIn t = false by simpa using this)

theorem card : Rows.TimerOrdersCardSaid :=
  Claim7.holds_tied_plain_at .later [] _ _ _ _ said (fun _ h => by cases h) (by kernel_rfl) (fun _ h => by cases h) timerOrders_row_tie rfl ⟨rfl, rfl⟩ (by kernel_rfl) rfl plain (by kernel_rfl)
#print axioms card
end Go.Proofs.YtbnanjcghhfcpaaDoor.lawOrders
