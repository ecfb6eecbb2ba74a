/-
  DERIVED. GIVEN WITH THE SEED: THE CARDS: each row of YtahnebnbnpiicaaDoorRows.lean that lists a variable, with what it lists TIED to the program's text (the seventh form; the later family's looks); each row that meets fmt, with fmt's text TOLD by the authors' own Lean function (tested against real Go, not proved from fmt's source: count such statements apart). THE CARD IS WHAT COUNTS. Prove the row's statement (the work); the ties are given (YtahnebnbnpiicaaDoorTie.lean); close each card by the builder's one call (the guide's Derived/Test/ToyasCard.lean, 'card_holds'). Laid BY PROGRAM, IN A SANDBOX (cutbox-door.mjs). By AI agents, Wed Nov 11 2026. No macro, syntax, notation, axiom, sorry.
-/
import Derived.Test.YtahnebnbnpiicaaDoorRows
import GoSem.ClaimSeven
namespace Go.Proofs.YtahnebnbnpiicaaDoor
namespace Rows

/-- THE TIED CARD OF 'scriniumlaw33.TimerMixes'. -/
def timerMixesCard : Claim7 := { stood := { row := timerMixesRow, standIns := [], harness := (true, "9f57c553299a0a5960cc2631fca4a8c4ee5c3b603aa7e9522d242507d3cd1f9c"), looks := false }, kinds := [], alts := [], laidByText := true, laidKinds := [.sentinel, .sentinel, .sentinel], laidTests := true, laidLooks := .later }
def TimerMixesCardSaid : Prop := Claim7.holds Tryd.pinned (.plain (OpenSpec.ofChange timerMixesSpec)) timerMixesCard

/-- THE SECOND FORM's CARD OF 'scriniumlaw33.TimerMixes'. -/
def timerMixesUptoCard : Claim7 := { stood := { row := timerMixesUptoRow, standIns := [], harness := (true, "9f57c553299a0a5960cc2631fca4a8c4ee5c3b603aa7e9522d242507d3cd1f9c"), looks := false }, kinds := [], alts := [], laidByText := true, laidKinds := [.sentinel, .sentinel, .sentinel], laidTests := true, laidLooks := .later }
def TimerMixesUptoCardSaid : Prop := Claim7.holds Tryd.pinned (.plain (OpenSpec.upto timerMixesSpec)) timerMixesUptoCard
end Rows
end Go.Proofs.YtahnebnbnpiicaaDoor
