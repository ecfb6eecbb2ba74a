/-
  DERIVED. GIVEN WITH THE SEED: THE CARDS: each row of YtbpmkofnfgdegaaGreatDoorRows.lean that lists a variable, with what it lists TIED to the program's text (the seventh form; the later family's looks); each row that meets fmt, with fmt's text TOLD by the authors' own Lean function (tested against real Go, not proved from fmt's source: count such statements apart). THE CARD IS WHAT COUNTS. Prove the row's statement (the work); the ties are given (YtbpmkofnfgdegaaGreatDoorTie.lean); close each card by the builder's one call (the guide's Derived/Test/ToyasCard.lean, 'card_holds'). Laid BY PROGRAM, IN A SANDBOX (cutbox-door.mjs). By AI agents, Wed Nov 11 2026. No macro, syntax, notation, axiom, sorry.
-/
import Derived.Test.YtbpmkofnfgdegaaGreatDoorRows
import GoSem.ClaimSeven
namespace Go.Proofs.YtbpmkofnfgdegaaGreatDoor
namespace Rows

/-- THE TIED CARD OF 'scriniumlaw31.MicroStays'. -/
def microStaysCard : Claim7 := { stood := { row := microStaysRow, standIns := [], harness := (true, "d109fecd15858411b0fa4f137cc74d9594fc1590f2d09d8aeded24033be0c7ac"), looks := true }, kinds := [], alts := [], laidByText := true, laidKinds := [.data, .sentinel, .sentinel, .sentinel, .sentinel], laidTests := true, laidLooks := .later }
def MicroStaysCardSaid : Prop := Claim7.holds Tryz.pinned (.plain (OpenSpec.ofChange microStaysSpec)) microStaysCard

/-- THE TIED CARD OF 'scriniumlaw31.MicroTakes'. -/
def microTakesCard : Claim7 := { stood := { row := microTakesRow, standIns := [], harness := (true, "d109fecd15858411b0fa4f137cc74d9594fc1590f2d09d8aeded24033be0c7ac"), looks := true }, kinds := [], alts := [], laidByText := true, laidKinds := [.data, .sentinel, .sentinel, .sentinel, .sentinel, .sentinel, .sentinel, .sentinel, .sentinel, .sentinel], laidTests := true, laidLooks := .later }
def MicroTakesCardSaid : Prop := Claim7.holds Tryz.pinned (.plain (OpenSpec.ofChange microTakesSpec)) microTakesCard

/-- THE TIED CARD OF 'scriniumlaw31.MicroFirst'. -/
def microFirstCard : Claim7 := { stood := { row := microFirstRow, standIns := [], harness := (true, "d109fecd15858411b0fa4f137cc74d9594fc1590f2d09d8aeded24033be0c7ac"), looks := true }, kinds := [], alts := [], laidByText := true, laidKinds := [.data, .sentinel, .sentinel, .sentinel, .sentinel, .sentinel, .sentinel, .sentinel, .sentinel, .sentinel], laidTests := true, laidLooks := .later }
def MicroFirstCardSaid : Prop := Claim7.holds Tryz.pinned (.plain (OpenSpec.ofChange microFirstSpec)) microFirstCard

/-- THE SECOND FORM's CARD OF 'scriniumlaw31.MicroStays'. -/
def microStaysUptoCard : Claim7 := { stood := { row := microStaysUptoRow, standIns := [], harness := (true, "d109fecd15858411b0fa4f137cc74d9594fc1590f2d09d8aeded24033be0c7ac"), looks := true }, kinds := [], alts := [], laidByText := true, laidKinds := [.data, .sentinel, .sentinel, .sentinel, .sentinel], laidTests := true, laidLooks := .later }
def MicroStaysUptoCardSaid : Prop := Claim7.holds Tryz.pinned (.plain (OpenSpec.upto microStaysSpec)) microStaysUptoCard

/-- THE SECOND FORM's CARD OF 'scriniumlaw31.MicroTakes'. -/
def microTakesUptoCard : Claim7 := { stood := { row := microTakesUptoRow, standIns := [], harness := (true, "d109fecd15858411b0fa4f137cc74d9594fc1590f2d09d8aeded24033be0c7ac"), looks := true }, kinds := [], alts := [], laidByText := true, laidKinds := [.data, .sentinel, .sentinel, .sentinel, .sentinel, .sentinel, .sentinel, .sentinel, .sentinel, .sentinel], laidTests := true, laidLooks := .later }
def MicroTakesUptoCardSaid : Prop := Claim7.holds Tryz.pinned (.plain (OpenSpec.upto microTakesSpec)) microTakesUptoCard

/-- THE SECOND FORM's CARD OF 'scriniumlaw31.MicroFirst'. -/
def microFirstUptoCard : Claim7 := { stood := { row := microFirstUptoRow, standIns := [], harness := (true, "d109fecd15858411b0fa4f137cc74d9594fc1590f2d09d8aeded24033be0c7ac"), looks := true }, kinds := [], alts := [], laidByText := true, laidKinds := [.data, .sentinel, .sentinel, .sentinel, .sentinel, .sentinel, .sentinel, .sentinel, .sentinel, .sentinel], laidTests := true, laidLooks := .later }
def MicroFirstUptoCardSaid : Prop := Claim7.holds Tryz.pinned (.plain (OpenSpec.upto microFirstSpec)) microFirstUptoCard
end Rows
end Go.Proofs.YtbpmkofnfgdegaaGreatDoor
