/-
  DERIVED. GIVEN WITH THE SEED: THE CARDS: each row of YtnbjaghjdeicmaaGreatDoorRows.lean that lists a variable, with what it lists TIED to the program's text (the seventh form; the later family's looks); each row that meets fmt, with fmt's text TOLD by the authors' own Lean function (tested against real Go, not proved from fmt's source: count such statements apart). THE CARD IS WHAT COUNTS. Prove the row's statement (the work); the ties are given (YtnbjaghjdeicmaaGreatDoorTie.lean); close each card by the builder's one call (the guide's Derived/Test/ToyasCard.lean, 'card_holds'). Laid BY PROGRAM, IN A SANDBOX (cutbox-door.mjs). By AI agents, Wed Nov 11 2026. No macro, syntax, notation, axiom, sorry.
-/
import Derived.Test.YtnbjaghjdeicmaaGreatDoorRows
import GoSem.ClaimSeven
namespace Go.Proofs.YtnbjaghjdeicmaaGreatDoor
namespace Rows

/-- THE TIED CARD OF 'scriniumlaw34.RecordFits'. -/
def recordFitsCard : Claim7 := { stood := { row := recordFitsRow, standIns := [], harness := (true, "b35a817abeb95d693d186aea18ac55d0e65f8111e0cda2786bd3a649cdab353c"), looks := true }, kinds := [], alts := [], laidByText := true, laidKinds := [.data, .sentinel, .sentinel, .sentinel, .sentinel, .sentinel, .sentinel, .sentinel, .sentinel, .sentinel], laidTests := true, laidLooks := .later }
def RecordFitsCardSaid : Prop := Claim7.holds Tryz.pinned (.plain (OpenSpec.ofChange recordFitsSpec)) recordFitsCard

/-- THE TIED CARD OF 'scriniumlaw31.MicroStays'. -/
def microStaysCard : Claim7 := { stood := { row := microStaysRow, standIns := [], harness := (true, "b35a817abeb95d693d186aea18ac55d0e65f8111e0cda2786bd3a649cdab353c"), looks := true }, kinds := [], alts := [], laidByText := true, laidKinds := [.data, .sentinel, .sentinel, .sentinel, .sentinel], laidTests := true, laidLooks := .later }
def MicroStaysCardSaid : Prop := Claim7.holds Tryz.pinned (.plain (OpenSpec.ofChange microStaysSpec)) microStaysCard

/-- THE TIED CARD OF 'scriniumlaw31.MicroTakes'. -/
def microTakesCard : Claim7 := { stood := { row := microTakesRow, standIns := [], harness := (true, "b35a817abeb95d693d186aea18ac55d0e65f8111e0cda2786bd3a649cdab353c"), looks := true }, kinds := [], alts := [], laidByText := true, laidKinds := [.data, .sentinel, .sentinel, .sentinel, .sentinel, .sentinel, .sentinel, .sentinel, .sentinel, .sentinel], laidTests := true, laidLooks := .later }
def MicroTakesCardSaid : Prop := Claim7.holds Tryz.pinned (.plain (OpenSpec.ofChange microTakesSpec)) microTakesCard

/-- THE TIED CARD OF 'scriniumlaw31.MicroFirst'. -/
def microFirstCard : Claim7 := { stood := { row := microFirstRow, standIns := [], harness := (true, "b35a817abeb95d693d186aea18ac55d0e65f8111e0cda2786bd3a649cdab353c"), looks := true }, kinds := [], alts := [], laidByText := true, laidKinds := [.data, .sentinel, .sentinel, .sentinel, .sentinel, .sentinel, .sentinel, .sentinel, .sentinel, .sentinel], laidTests := true, laidLooks := .later }
def MicroFirstCardSaid : Prop := Claim7.holds Tryz.pinned (.plain (OpenSpec.ofChange microFirstSpec)) microFirstCard

/-- THE TIED CARD OF 'scriniumlaw31.MicroChecks'. -/
def microChecksCard : Claim7 := { stood := { row := microChecksRow, standIns := [], harness := (true, "b35a817abeb95d693d186aea18ac55d0e65f8111e0cda2786bd3a649cdab353c"), looks := true }, kinds := [], alts := [], laidByText := true, laidKinds := [.data, .sentinel, .sentinel, .sentinel, .sentinel, .sentinel, .sentinel, .sentinel, .sentinel, .sentinel], laidTests := true, laidLooks := .later }
def MicroChecksCardSaid : Prop := Claim7.holds Tryz.pinned (.plain (OpenSpec.ofChange microChecksSpec)) microChecksCard

/-- THE TIED CARD OF 'scriniumlaw31.MicroEnabled'. -/
def microEnabledCard : Claim7 := { stood := { row := microEnabledRow, standIns := [], harness := (true, "b35a817abeb95d693d186aea18ac55d0e65f8111e0cda2786bd3a649cdab353c"), looks := true }, kinds := [], alts := [], laidByText := true, laidKinds := [.data, .handle, .sentinel, .sentinel, .sentinel, .sentinel, .sentinel, .sentinel, .sentinel, .sentinel, .sentinel], laidTests := true, laidLooks := .later }
def MicroEnabledCardSaid : Prop := Claim7.holds Tryz.pinned (.plain (OpenSpec.ofChange microEnabledSpec)) microEnabledCard

/-- THE SECOND FORM's CARD OF 'scriniumlaw34.RecordFits'. -/
def recordFitsUptoCard : Claim7 := { stood := { row := recordFitsUptoRow, standIns := [], harness := (true, "b35a817abeb95d693d186aea18ac55d0e65f8111e0cda2786bd3a649cdab353c"), looks := true }, kinds := [], alts := [], laidByText := true, laidKinds := [.data, .sentinel, .sentinel, .sentinel, .sentinel, .sentinel, .sentinel, .sentinel, .sentinel, .sentinel], laidTests := true, laidLooks := .later }
def RecordFitsUptoCardSaid : Prop := Claim7.holds Tryz.pinned (.plain (OpenSpec.upto recordFitsSpec)) recordFitsUptoCard

/-- THE SECOND FORM's CARD OF 'scriniumlaw31.MicroStays'. -/
def microStaysUptoCard : Claim7 := { stood := { row := microStaysUptoRow, standIns := [], harness := (true, "b35a817abeb95d693d186aea18ac55d0e65f8111e0cda2786bd3a649cdab353c"), looks := true }, kinds := [], alts := [], laidByText := true, laidKinds := [.data, .sentinel, .sentinel, .sentinel, .sentinel], laidTests := true, laidLooks := .later }
def MicroStaysUptoCardSaid : Prop := Claim7.holds Tryz.pinned (.plain (OpenSpec.upto microStaysSpec)) microStaysUptoCard

/-- THE SECOND FORM's CARD OF 'scriniumlaw31.MicroTakes'. -/
def microTakesUptoCard : Claim7 := { stood := { row := microTakesUptoRow, standIns := [], harness := (true, "b35a817abeb95d693d186aea18ac55d0e65f8111e0cda2786bd3a649cdab353c"), looks := true }, kinds := [], alts := [], laidByText := true, laidKinds := [.data, .sentinel, .sentinel, .sentinel, .sentinel, .sentinel, .sentinel, .sentinel, .sentinel, .sentinel], laidTests := true, laidLooks := .later }
def MicroTakesUptoCardSaid : Prop := Claim7.holds Tryz.pinned (.plain (OpenSpec.upto microTakesSpec)) microTakesUptoCard

/-- THE SECOND FORM's CARD OF 'scriniumlaw31.MicroFirst'. -/
def microFirstUptoCard : Claim7 := { stood := { row := microFirstUptoRow, standIns := [], harness := (true, "b35a817abeb95d693d186aea18ac55d0e65f8111e0cda2786bd3a649cdab353c"), looks := true }, kinds := [], alts := [], laidByText := true, laidKinds := [.data, .sentinel, .sentinel, .sentinel, .sentinel, .sentinel, .sentinel, .sentinel, .sentinel, .sentinel], laidTests := true, laidLooks := .later }
def MicroFirstUptoCardSaid : Prop := Claim7.holds Tryz.pinned (.plain (OpenSpec.upto microFirstSpec)) microFirstUptoCard

/-- THE SECOND FORM's CARD OF 'scriniumlaw31.MicroChecks'. -/
def microChecksUptoCard : Claim7 := { stood := { row := microChecksUptoRow, standIns := [], harness := (true, "b35a817abeb95d693d186aea18ac55d0e65f8111e0cda2786bd3a649cdab353c"), looks := true }, kinds := [], alts := [], laidByText := true, laidKinds := [.data, .sentinel, .sentinel, .sentinel, .sentinel, .sentinel, .sentinel, .sentinel, .sentinel, .sentinel], laidTests := true, laidLooks := .later }
def MicroChecksUptoCardSaid : Prop := Claim7.holds Tryz.pinned (.plain (OpenSpec.upto microChecksSpec)) microChecksUptoCard

/-- THE SECOND FORM's CARD OF 'scriniumlaw31.MicroEnabled'. -/
def microEnabledUptoCard : Claim7 := { stood := { row := microEnabledUptoRow, standIns := [], harness := (true, "b35a817abeb95d693d186aea18ac55d0e65f8111e0cda2786bd3a649cdab353c"), looks := true }, kinds := [], alts := [], laidByText := true, laidKinds := [.data, .handle, .sentinel, .sentinel, .sentinel, .sentinel, .sentinel, .sentinel, .sentinel, .sentinel, .sentinel], laidTests := true, laidLooks := .later }
def MicroEnabledUptoCardSaid : Prop := Claim7.holds Tryz.pinned (.plain (OpenSpec.upto microEnabledSpec)) microEnabledUptoCard
end Rows
end Go.Proofs.YtnbjaghjdeicmaaGreatDoor
