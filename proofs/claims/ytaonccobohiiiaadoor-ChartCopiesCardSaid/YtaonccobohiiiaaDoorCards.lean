/-
  DERIVED. GIVEN WITH THE SEED: THE CARDS: each row of YtaonccobohiiiaaDoorRows.lean that lists a variable, with what it lists TIED to the program's text (the seventh form; the later family's looks); each row that meets fmt, with fmt's text TOLD by the authors' own Lean function (tested against real Go, not proved from fmt's source: count such statements apart). THE CARD IS WHAT COUNTS. Prove the row's statement (the work); the ties are given (YtaonccobohiiiaaDoorTie.lean); close each card by the builder's one call (the guide's Derived/Test/ToyasCard.lean, 'card_holds'). Laid BY PROGRAM, IN A SANDBOX (cutbox-door.mjs). By AI agents, Wed Nov 11 2026. No macro, syntax, notation, axiom, sorry.
-/
import Derived.Test.YtaonccobohiiiaaDoorRows
import GoSem.ClaimSeven
namespace Go.Proofs.YtaonccobohiiiaaDoor
namespace Rows

/-- THE TIED CARD OF 'scriniumlaw24.ChartCopies'. -/
def chartCopiesCard : Claim7 := { stood := { row := chartCopiesRow, standIns := [], harness := (true, "8402bc1767c0ec0ad726b270b5d9dfff3c06d744975fd5cace857c13e1b57892"), looks := true }, kinds := [], alts := [], laidByText := true, laidKinds := [.handle, .sentinel, .sentinel], laidTests := true, laidLooks := .later }
def ChartCopiesCardSaid : Prop := Claim7.holds Tryd.pinned (.plain (OpenSpec.ofChange chartCopiesSpec)) chartCopiesCard

/-- THE TIED CARD OF 'scriniumlaw24.ChartNames'. -/
def chartNamesCard : Claim7 := { stood := { row := chartNamesRow, standIns := [], harness := (true, "8402bc1767c0ec0ad726b270b5d9dfff3c06d744975fd5cace857c13e1b57892"), looks := true }, kinds := [], alts := [], laidByText := true, laidKinds := [.handle, .sentinel, .sentinel], laidTests := true, laidLooks := .later }
def ChartNamesCardSaid : Prop := Claim7.holds Tryd.pinned (.plain (OpenSpec.ofChange chartNamesSpec)) chartNamesCard

/-- THE SECOND FORM's CARD OF 'scriniumlaw24.ChartCopies'. -/
def chartCopiesUptoCard : Claim7 := { stood := { row := chartCopiesUptoRow, standIns := [], harness := (true, "8402bc1767c0ec0ad726b270b5d9dfff3c06d744975fd5cace857c13e1b57892"), looks := true }, kinds := [], alts := [], laidByText := true, laidKinds := [.handle, .sentinel, .sentinel], laidTests := true, laidLooks := .later }
def ChartCopiesUptoCardSaid : Prop := Claim7.holds Tryd.pinned (.plain (OpenSpec.upto chartCopiesSpec)) chartCopiesUptoCard

/-- THE SECOND FORM's CARD OF 'scriniumlaw24.ChartNames'. -/
def chartNamesUptoCard : Claim7 := { stood := { row := chartNamesUptoRow, standIns := [], harness := (true, "8402bc1767c0ec0ad726b270b5d9dfff3c06d744975fd5cace857c13e1b57892"), looks := true }, kinds := [], alts := [], laidByText := true, laidKinds := [.handle, .sentinel, .sentinel], laidTests := true, laidLooks := .later }
def ChartNamesUptoCardSaid : Prop := Claim7.holds Tryd.pinned (.plain (OpenSpec.upto chartNamesSpec)) chartNamesUptoCard
end Rows
end Go.Proofs.YtaonccobohiiiaaDoor
