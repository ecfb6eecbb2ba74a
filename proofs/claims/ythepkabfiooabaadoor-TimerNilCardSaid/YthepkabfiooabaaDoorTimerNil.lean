/- TimerNil returns true for any due, and leaves its argument as it was (the tied card). Condition: the nine listed error variables hold what the program's text lays. -/
import Derived.Test.YthepkabfiooabaaDoorCards
import Derived.Test.YthepkabfiooabaaDoorTie
import Derived.Test.YthepkabfiooabaaDoorTZ6
import Derived.Test.YthepkabfiooabaaDoorTX2
import Derived.Test.YthepkabfiooabaaDoorLaid
import Derived.Lib.SmallJoins
import Derived.SevenTiedAt
import Derived.SizedLaws
namespace Go.Proofs.YthepkabfiooabaaDoor.lawNil
open Go.ChangeShapes Go.WideShapes Go.ChangeAt Go.WideMaps Go.WideElems Go.RowKit Go.Joins
open Go.ChangeMaps (open_string)

theorem own : ownKnob Tryd.prog.godebug = none := by kernel_rfl
theorem laidOut : laidOutB Tryd.prog = true := by kernel_rfl
theorem params : ∀ t ∈ Tryd.f7.params.toList, Tryd.prog.readableRec t = true ∧ t < Tryd.prog.types.size := by
  have hall : (Tryd.f7.params.toList.all fun u => Tryd.prog.readableRec u && decide (u < Tryd.prog.types.size)) = true := by kernel_rfl
  intro t ht
  simpa using List.all_eq_true.1 hall t ht

theorem door_met (os : Os) (args : Array Value) : laidMetH Tryd.prog Rows.timerNilRow.laid ((World.doorLaid Tryd.prog 180 os).forCall (fun _ _ => 0) ⟨#[], args, []⟩).memory :=
  laidMetH_of_parts3 (fuel := 8) (laidMet_of_run' 8 (by kernel_rfl) (by kernel_rfl)) (by kernel_rfl) (by kernel_rfl)

set_option maxRecDepth 100000 in
/-- The step from the walk to the row's words. -/
theorem contract (H : Type) (enc : TypeId × Value → H) (W : World) (base : Nat) (args : Array Value) (ds gs : List (DataW H)) (before : List MemPlace)
    (hval : ∀ (j : Nat) t v, Tryd.f7.params[j]? = some t → args[j]? = some v → Value.okWide Tryd.prog W .any base t v)
    (hW : DataW.Whole enc Tryd.prog Tryd.f7.params.toList Rows.timerNilSpec.vars false W args.toList ds gs before) (hL : laidMetH Tryd.prog Rows.timerNilRow.laid W)
    (hsz : ((DataW.weightsEach Tryd.prog (Tryd.f7.params.toList ++ DataSpec.varTypes Tryd.prog Rows.timerNilSpec.plain) (ds ++ gs)).all fun x => decide (x ≤ reachBytes)) = true) :
    Calls Tryd.prog 7 args W fun e W' => ∃ v, e = .returned v ∧ Rows.timerNilSpec.post enc Tryd.prog Tryd.f7 false true false false W args v W' := by
  have hW' := hW
  have _u1 := hL
  have _u2 := hsz
  obtain ⟨p, q, hA0, hV, rfl, hfz, hnd⟩ := hW
  have hA : DataW.TrodAll enc Tryd.prog W 0 (fun _ => true) true Tryd.f7.params.toList args.toList ds p := hA0
  rw [Tryd.params7] at hA hval
  obtain ⟨v0, d0, rfl, rfl, h0⟩ := trodAll_one hA
  obtain ⟨rfl, rfl⟩ := trodVars_none hV
  have fin : Calls Tryd.prog 7 #[v0] W (fun e w' => e = .returned (.bool true) ∧ Below W.heap.size W w') →
      Calls Tryd.prog 7 #[v0] W fun e W' => ∃ v, e = .returned v ∧ Rows.timerNilSpec.post enc Tryd.prog Tryd.f7 false true false false W #[v0] v W' :=
    fun h => h.mono fun e W' ⟨he, hb⟩ => ⟨_, he, law_post laidOut params (by kernel_rfl) Tryd.underlying4 hW' rfl (fun _ => rfl) hb⟩
  obtain ⟨x, hx, hr⟩ := open_dueV (hval 0 _ v0 rfl rfl) h0
  obtain ⟨ad, hS⟩ := sents_of_nine hL
  exact fin (con_run' (tnil_con ad ⟨fun _ => True, fun _ _ _ _ => trivial⟩ x hx) (errEnv_ok hS trivial) ⟨hr, trivial⟩)

set_option maxRecDepth 100000 in
theorem lifted (os : Os) (started : os.Started) (H : Type) (enc : TypeId × Value → H) :
    ReturnsInHanded {} Tryd.checked os 7 .any (fun w args => (Rows.timerNilSpec.pre enc Tryd.prog Tryd.f7 [] false w args ∧ laidMetH Tryd.prog Rows.timerNilRow.laid w) ∧ sizedMet enc Tryd.prog Tryd.f7 (OpenSpec.ofChange Rows.timerNilSpec) false w args)
      (Rows.timerNilSpec.post enc Tryd.prog Tryd.f7 false true false false) := by
  refine returnsInHanded_of_change_and (C := Tryd.checked) (X := fun w _ => laidMetH Tryd.prog Rows.timerNilRow.laid w) (fun _ _ _ hh h => h.of_heap hh) own started (by kernel_rfl) Tryd.func7
    (ChangeSpec.witness_shaped (enc := enc) (C := Tryd.checked) (os := os) (X := fun w _ => laidMetH Tryd.prog Rows.timerNilRow.laid w) false (World.doorLaid Tryd.prog 180 os) #[.agg #[.int .i64 0, .int .i64 0, .string ⟨#[]⟩]] 8 rfl (World.shaped_of_RefB (by kernel_rfl) (by kernel_rfl)) (by kernel_rfl) (by kernel_rfl) (by kernel_rfl) (door_met os _)) ?_
  intro W base args ds gs before hval0 hW hdom hsz hL hass
  exact contract H enc W base args ds gs before hval0 hW hL hsz

theorem said : Rows.TimerNilSaid :=
  OpenClaim.holds_of_wide 7 Tryd.f7 rfl rfl rfl rfl rfl rfl rfl ⟨rfl, rfl, rfl, rfl, rfl⟩ rfl rfl rfl rfl rfl (by kernel_rfl) Tryd.func7 (by kernel_rfl)
    (of_decide_eq_true (by kernel_rfl)) (by unfold Func.isWrapper; first | (rw [if_pos (by decide +kernel)]; kernel_rfl) | (rw [if_neg (by decide +kernel)]; exact ⟨rfl, rfl⟩))
    (fun os started H enc _ => lifted os started H enc)

theorem plain (f : FuncId) (fn : Func) (hf : Tryd.pinned.checked.prog.funcNamed "scrinium/scriniumlaw33.TimerNil" = some f) (hfn : Tryd.pinned.checked.prog.funcs[f]? = some fn) :
    true = Tryd.pinned.checked.prog.looks [] ∧ ∀ (j : Nat) t, fn.params[j]? = some t → Tryd.pinned.checked.prog.wantsStandIn t = false := by
  obtain rfl : f = 7 := Option.some.inj ((show Tryd.prog.funcNamed "scrinium/scriniumlaw33.TimerNil" = some 7 by kernel_rfl).symm.trans hf) |>.symm
  obtain rfl : fn = Tryd.f7 := (Option.some.inj (Tryd.func7.symm.trans hfn)).symm
  refine ⟨by kernel_rfl, fun j t ht => ?_⟩
  have hall : (Tryd.f7.params.toList.all fun u => !Tryd.prog.wantsStandIn u) = true := by kernel_rfl
  have := List.all_eq_true.1 hall t (by simpa using Array.mem_of_getElem? ht)
  exact (show Tryd.prog.wantsStandIn t = false by simpa using this)

theorem card : Rows.TimerNilCardSaid :=
  Claim7.holds_tied_plain_at .later [] _ _ _ _ said (fun _ h => by cases h) (by kernel_rfl) (fun _ h => by cases h) timerNil_row_tie rfl ⟨rfl, rfl⟩ (by kernel_rfl) rfl plain (by kernel_rfl)
#print axioms card
end Go.Proofs.YthepkabfiooabaaDoor.lawNil
