/-
  DERIVED. GIVEN WITH THE SEED: THE CARDS: each row of YtdpjgflalmnkdaaGreatDoorRows.lean that lists a variable, with what it lists TIED to the program's text (the seventh form; the later family's looks); each row that meets fmt, with fmt's text TOLD by the authors' own Lean function (tested against real Go, not proved from fmt's source: count such statements apart). THE CARD IS WHAT COUNTS. Prove the row's statement (the work); the ties are given (YtdpjgflalmnkdaaGreatDoorTie.lean); close each card by the builder's one call (the guide's Derived/Test/ToyasCard.lean, 'card_holds'). Laid BY PROGRAM, IN A SANDBOX (cutbox-door.mjs). By AI agents, Wed Nov 11 2026. No macro, syntax, notation, axiom, sorry.
-/
import Derived.Test.YtdpjgflalmnkdaaGreatDoorRows
import GoSem.ClaimSeven
namespace Go.Proofs.YtdpjgflalmnkdaaGreatDoor
namespace Rows

/-- THE TIED CARD OF 'scriniumlaw31.MicroTakes'. -/
def microTakesCard : Claim7 := { stood := { row := microTakesRow, standIns := [], harness := (true, "1dc0ab5d612567251e40d83e0602f1b1f439c0c0126b26e08f71ec1e83e1a893"), looks := true }, kinds := [], alts := [], laidByText := true, laidKinds := [.data, .sentinel, .sentinel, .sentinel, .sentinel, .sentinel, .sentinel, .sentinel, .sentinel, .sentinel], laidTests := true, laidLooks := .later }
def MicroTakesCardSaid : Prop := Claim7.holds Tryz.pinned (.plain (OpenSpec.ofChange microTakesSpec)) microTakesCard

/-- THE SECOND FORM's CARD OF 'scriniumlaw31.MicroTakes'. -/
def microTakesUptoCard : Claim7 := { stood := { row := microTakesUptoRow, standIns := [], harness := (true, "1dc0ab5d612567251e40d83e0602f1b1f439c0c0126b26e08f71ec1e83e1a893"), looks := true }, kinds := [], alts := [], laidByText := true, laidKinds := [.data, .sentinel, .sentinel, .sentinel, .sentinel, .sentinel, .sentinel, .sentinel, .sentinel, .sentinel], laidTests := true, laidLooks := .later }
def MicroTakesUptoCardSaid : Prop := Claim7.holds Tryz.pinned (.plain (OpenSpec.upto microTakesSpec)) microTakesUptoCard
end Rows
end Go.Proofs.YtdpjgflalmnkdaaGreatDoor
