/-
  DERIVED. GIVEN WITH THE SEED: THE CARDS: each row of YtfcdkaolcdglmaaGreatDoorRows.lean that lists a variable, with what it lists TIED to the program's text (the seventh form; the later family's looks); each row that meets fmt, with fmt's text TOLD by the authors' own Lean function (tested against real Go, not proved from fmt's source: count such statements apart). THE CARD IS WHAT COUNTS. Prove the row's statement (the work); the ties are given (YtfcdkaolcdglmaaGreatDoorTie.lean); close each card by the builder's one call (the guide's Derived/Test/ToyasCard.lean, 'card_holds'). Laid BY PROGRAM, IN A SANDBOX (cutbox-door.mjs). By AI agents, Wed Nov 11 2026. No macro, syntax, notation, axiom, sorry.
-/
import Derived.Test.YtfcdkaolcdglmaaGreatDoorRows
import GoSem.ClaimSeven
namespace Go.Proofs.YtfcdkaolcdglmaaGreatDoor
namespace Rows

/-- THE TIED CARD OF 'scriniumlaw34.RecordLives'. -/
def recordLivesCard : Claim7 := { stood := { row := recordLivesRow, standIns := [], harness := (true, "d2448bc06c55a4868c81adc6a9cd8fbcd10f59d6aa223022f9db65149e625df1"), looks := false }, kinds := [], alts := [], laidByText := true, laidKinds := [.data, .sentinel, .sentinel, .sentinel, .sentinel, .sentinel], laidTests := true, laidLooks := .later }
def RecordLivesCardSaid : Prop := Claim7.holds Tryz.pinned (.plain (OpenSpec.ofChange recordLivesSpec)) recordLivesCard

/-- THE SECOND FORM's CARD OF 'scriniumlaw34.RecordLives'. -/
def recordLivesUptoCard : Claim7 := { stood := { row := recordLivesUptoRow, standIns := [], harness := (true, "d2448bc06c55a4868c81adc6a9cd8fbcd10f59d6aa223022f9db65149e625df1"), looks := false }, kinds := [], alts := [], laidByText := true, laidKinds := [.data, .sentinel, .sentinel, .sentinel, .sentinel, .sentinel], laidTests := true, laidLooks := .later }
def RecordLivesUptoCardSaid : Prop := Claim7.holds Tryz.pinned (.plain (OpenSpec.upto recordLivesSpec)) recordLivesUptoCard
end Rows
end Go.Proofs.YtfcdkaolcdglmaaGreatDoor
