/-
  DERIVED. GIVEN WITH THE SEED: THE CARDS: each row of YtknkhdgfhbogdaaGreatDoorRows.lean that lists a variable, with what it lists TIED to the program's text (the seventh form; the later family's looks); each row that meets fmt, with fmt's text TOLD by the authors' own Lean function (tested against real Go, not proved from fmt's source: count such statements apart). THE CARD IS WHAT COUNTS. Prove the row's statement (the work); the ties are given (YtknkhdgfhbogdaaGreatDoorTie.lean); close each card by the builder's one call (the guide's Derived/Test/ToyasCard.lean, 'card_holds'). Laid BY PROGRAM, IN A SANDBOX (cutbox-door.mjs). By AI agents, Wed Nov 11 2026. No macro, syntax, notation, axiom, sorry.
-/
import Derived.Test.YtknkhdgfhbogdaaGreatDoorRows
import GoSem.ClaimSeven
namespace Go.Proofs.YtknkhdgfhbogdaaGreatDoor
namespace Rows

/-- THE TIED CARD OF 'scriniumlaw32.MacroQuiet'. -/
def macroQuietCard : Claim7 := { stood := { row := macroQuietRow, standIns := [], harness := (true, "3e626bebc64dc7d952aebc3f3132c35b73d7ed2eb0be9950d9d2f8400a7d3971"), looks := false }, kinds := [], alts := [], laidByText := true, laidKinds := [.data, .sentinel, .sentinel, .sentinel, .sentinel, .sentinel], laidTests := true, laidLooks := .later }
def MacroQuietCardSaid : Prop := Claim7.holds Tryz.pinned (.plain (OpenSpec.ofChange macroQuietSpec)) macroQuietCard

/-- THE SECOND FORM's CARD OF 'scriniumlaw32.MacroQuiet'. -/
def macroQuietUptoCard : Claim7 := { stood := { row := macroQuietUptoRow, standIns := [], harness := (true, "3e626bebc64dc7d952aebc3f3132c35b73d7ed2eb0be9950d9d2f8400a7d3971"), looks := false }, kinds := [], alts := [], laidByText := true, laidKinds := [.data, .sentinel, .sentinel, .sentinel, .sentinel, .sentinel], laidTests := true, laidLooks := .later }
def MacroQuietUptoCardSaid : Prop := Claim7.holds Tryz.pinned (.plain (OpenSpec.upto macroQuietSpec)) macroQuietUptoCard
end Rows
end Go.Proofs.YtknkhdgfhbogdaaGreatDoor
