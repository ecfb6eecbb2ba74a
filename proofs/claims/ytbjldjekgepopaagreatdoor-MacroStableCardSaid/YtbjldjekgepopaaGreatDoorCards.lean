/-
  DERIVED. GIVEN WITH THE SEED: THE CARDS: each row of YtbjldjekgepopaaGreatDoorRows.lean that lists a variable, with what it lists TIED to the program's text (the seventh form; the later family's looks); each row that meets fmt, with fmt's text TOLD by the authors' own Lean function (tested against real Go, not proved from fmt's source: count such statements apart). THE CARD IS WHAT COUNTS. Prove the row's statement (the work); the ties are given (YtbjldjekgepopaaGreatDoorTie.lean); close each card by the builder's one call (the guide's Derived/Test/ToyasCard.lean, 'card_holds'). Laid BY PROGRAM, IN A SANDBOX (cutbox-door.mjs). By AI agents, Wed Nov 11 2026. No macro, syntax, notation, axiom, sorry.
-/
import Derived.Test.YtbjldjekgepopaaGreatDoorRows
import GoSem.ClaimSeven
namespace Go.Proofs.YtbjldjekgepopaaGreatDoor
namespace Rows

/-- THE TIED CARD OF 'scriniumlaw32.MacroQuiet'. -/
def macroQuietCard : Claim7 := { stood := { row := macroQuietRow, standIns := [], harness := (true, "fc68dfbad2f3a6fbf75b78cd6bee800178cd842f15f13a5f00abcbdbf4ba1a59"), looks := true }, kinds := [], alts := [], laidByText := true, laidKinds := [.data, .sentinel, .sentinel, .sentinel, .sentinel, .sentinel], laidTests := true, laidLooks := .later }
def MacroQuietCardSaid : Prop := Claim7.holds Tryz.pinned (.plain (OpenSpec.ofChange macroQuietSpec)) macroQuietCard

/-- THE TIED CARD OF 'scriniumlaw32.MacroFuel'. -/
def macroFuelCard : Claim7 := { stood := { row := macroFuelRow, standIns := [], harness := (true, "fc68dfbad2f3a6fbf75b78cd6bee800178cd842f15f13a5f00abcbdbf4ba1a59"), looks := true }, kinds := [], alts := [], laidByText := true, laidKinds := [.data, .sentinel, .sentinel, .sentinel, .sentinel, .sentinel, .sentinel, .sentinel, .sentinel, .sentinel], laidTests := true, laidLooks := .later }
def MacroFuelCardSaid : Prop := Claim7.holds Tryz.pinned (.plain (OpenSpec.ofChange macroFuelSpec)) macroFuelCard

/-- THE TIED CARD OF 'scriniumlaw32.MacroStable'. -/
def macroStableCard : Claim7 := { stood := { row := macroStableRow, standIns := [], harness := (true, "fc68dfbad2f3a6fbf75b78cd6bee800178cd842f15f13a5f00abcbdbf4ba1a59"), looks := true }, kinds := [], alts := [], laidByText := true, laidKinds := [.data, .sentinel, .sentinel, .sentinel, .sentinel, .sentinel, .sentinel, .sentinel, .sentinel, .sentinel], laidTests := true, laidLooks := .later }
def MacroStableCardSaid : Prop := Claim7.holds Tryz.pinned (.plain (OpenSpec.ofChange macroStableSpec)) macroStableCard

/-- THE TIED CARD OF 'scriniumlaw32.MacroPlays'. -/
def macroPlaysCard : Claim7 := { stood := { row := macroPlaysRow, standIns := [], harness := (true, "fc68dfbad2f3a6fbf75b78cd6bee800178cd842f15f13a5f00abcbdbf4ba1a59"), looks := true }, kinds := [], alts := [], laidByText := true, laidKinds := [.data, .sentinel, .sentinel, .sentinel, .sentinel, .sentinel, .sentinel, .sentinel, .sentinel, .sentinel], laidTests := true, laidLooks := .later }
def MacroPlaysCardSaid : Prop := Claim7.holds Tryz.pinned (.plain (OpenSpec.ofChange macroPlaysSpec)) macroPlaysCard

/-- THE TIED CARD OF 'scriniumlaw32.MacroBegins'. -/
def macroBeginsCard : Claim7 := { stood := { row := macroBeginsRow, standIns := [], harness := (true, "fc68dfbad2f3a6fbf75b78cd6bee800178cd842f15f13a5f00abcbdbf4ba1a59"), looks := true }, kinds := [], alts := [], laidByText := true, laidKinds := [.data, .handle, .sentinel, .sentinel, .sentinel, .sentinel, .sentinel, .sentinel, .sentinel, .sentinel, .sentinel], laidTests := true, laidLooks := .later }
def MacroBeginsCardSaid : Prop := Claim7.holds Tryz.pinned (.plain (OpenSpec.ofChange macroBeginsSpec)) macroBeginsCard

/-- THE TIED CARD OF 'scriniumlaw32.MacroSends'. -/
def macroSendsCard : Claim7 := { stood := { row := macroSendsRow, standIns := [], harness := (true, "fc68dfbad2f3a6fbf75b78cd6bee800178cd842f15f13a5f00abcbdbf4ba1a59"), looks := true }, kinds := [], alts := [], laidByText := true, laidKinds := [.data, .handle, .sentinel, .sentinel, .sentinel, .sentinel, .sentinel, .sentinel, .sentinel, .sentinel, .sentinel], laidTests := true, laidLooks := .later }
def MacroSendsCardSaid : Prop := Claim7.holds Tryz.pinned (.plain (OpenSpec.ofChange macroSendsSpec)) macroSendsCard

/-- THE TIED CARD OF 'scriniumlaw32.MacroSettles'. -/
def macroSettlesCard : Claim7 := { stood := { row := macroSettlesRow, standIns := [], harness := (true, "fc68dfbad2f3a6fbf75b78cd6bee800178cd842f15f13a5f00abcbdbf4ba1a59"), looks := true }, kinds := [], alts := [], laidByText := true, laidKinds := [.data, .handle, .sentinel, .sentinel, .sentinel, .sentinel, .sentinel, .sentinel, .sentinel, .sentinel, .sentinel], laidTests := true, laidLooks := .later }
def MacroSettlesCardSaid : Prop := Claim7.holds Tryz.pinned (.plain (OpenSpec.ofChange macroSettlesSpec)) macroSettlesCard

/-- THE TIED CARD OF 'scriniumlaw34.RecordLives'. -/
def recordLivesCard : Claim7 := { stood := { row := recordLivesRow, standIns := [], harness := (true, "fc68dfbad2f3a6fbf75b78cd6bee800178cd842f15f13a5f00abcbdbf4ba1a59"), looks := true }, kinds := [], alts := [], laidByText := true, laidKinds := [.data, .sentinel, .sentinel, .sentinel, .sentinel, .sentinel], laidTests := true, laidLooks := .later }
def RecordLivesCardSaid : Prop := Claim7.holds Tryz.pinned (.plain (OpenSpec.ofChange recordLivesSpec)) recordLivesCard

/-- THE SECOND FORM's CARD OF 'scriniumlaw32.MacroQuiet'. -/
def macroQuietUptoCard : Claim7 := { stood := { row := macroQuietUptoRow, standIns := [], harness := (true, "fc68dfbad2f3a6fbf75b78cd6bee800178cd842f15f13a5f00abcbdbf4ba1a59"), looks := true }, kinds := [], alts := [], laidByText := true, laidKinds := [.data, .sentinel, .sentinel, .sentinel, .sentinel, .sentinel], laidTests := true, laidLooks := .later }
def MacroQuietUptoCardSaid : Prop := Claim7.holds Tryz.pinned (.plain (OpenSpec.upto macroQuietSpec)) macroQuietUptoCard

/-- THE SECOND FORM's CARD OF 'scriniumlaw32.MacroFuel'. -/
def macroFuelUptoCard : Claim7 := { stood := { row := macroFuelUptoRow, standIns := [], harness := (true, "fc68dfbad2f3a6fbf75b78cd6bee800178cd842f15f13a5f00abcbdbf4ba1a59"), looks := true }, kinds := [], alts := [], laidByText := true, laidKinds := [.data, .sentinel, .sentinel, .sentinel, .sentinel, .sentinel, .sentinel, .sentinel, .sentinel, .sentinel], laidTests := true, laidLooks := .later }
def MacroFuelUptoCardSaid : Prop := Claim7.holds Tryz.pinned (.plain (OpenSpec.upto macroFuelSpec)) macroFuelUptoCard

/-- THE SECOND FORM's CARD OF 'scriniumlaw32.MacroStable'. -/
def macroStableUptoCard : Claim7 := { stood := { row := macroStableUptoRow, standIns := [], harness := (true, "fc68dfbad2f3a6fbf75b78cd6bee800178cd842f15f13a5f00abcbdbf4ba1a59"), looks := true }, kinds := [], alts := [], laidByText := true, laidKinds := [.data, .sentinel, .sentinel, .sentinel, .sentinel, .sentinel, .sentinel, .sentinel, .sentinel, .sentinel], laidTests := true, laidLooks := .later }
def MacroStableUptoCardSaid : Prop := Claim7.holds Tryz.pinned (.plain (OpenSpec.upto macroStableSpec)) macroStableUptoCard

/-- THE SECOND FORM's CARD OF 'scriniumlaw32.MacroPlays'. -/
def macroPlaysUptoCard : Claim7 := { stood := { row := macroPlaysUptoRow, standIns := [], harness := (true, "fc68dfbad2f3a6fbf75b78cd6bee800178cd842f15f13a5f00abcbdbf4ba1a59"), looks := true }, kinds := [], alts := [], laidByText := true, laidKinds := [.data, .sentinel, .sentinel, .sentinel, .sentinel, .sentinel, .sentinel, .sentinel, .sentinel, .sentinel], laidTests := true, laidLooks := .later }
def MacroPlaysUptoCardSaid : Prop := Claim7.holds Tryz.pinned (.plain (OpenSpec.upto macroPlaysSpec)) macroPlaysUptoCard

/-- THE SECOND FORM's CARD OF 'scriniumlaw32.MacroBegins'. -/
def macroBeginsUptoCard : Claim7 := { stood := { row := macroBeginsUptoRow, standIns := [], harness := (true, "fc68dfbad2f3a6fbf75b78cd6bee800178cd842f15f13a5f00abcbdbf4ba1a59"), looks := true }, kinds := [], alts := [], laidByText := true, laidKinds := [.data, .handle, .sentinel, .sentinel, .sentinel, .sentinel, .sentinel, .sentinel, .sentinel, .sentinel, .sentinel], laidTests := true, laidLooks := .later }
def MacroBeginsUptoCardSaid : Prop := Claim7.holds Tryz.pinned (.plain (OpenSpec.upto macroBeginsSpec)) macroBeginsUptoCard

/-- THE SECOND FORM's CARD OF 'scriniumlaw32.MacroSends'. -/
def macroSendsUptoCard : Claim7 := { stood := { row := macroSendsUptoRow, standIns := [], harness := (true, "fc68dfbad2f3a6fbf75b78cd6bee800178cd842f15f13a5f00abcbdbf4ba1a59"), looks := true }, kinds := [], alts := [], laidByText := true, laidKinds := [.data, .handle, .sentinel, .sentinel, .sentinel, .sentinel, .sentinel, .sentinel, .sentinel, .sentinel, .sentinel], laidTests := true, laidLooks := .later }
def MacroSendsUptoCardSaid : Prop := Claim7.holds Tryz.pinned (.plain (OpenSpec.upto macroSendsSpec)) macroSendsUptoCard

/-- THE SECOND FORM's CARD OF 'scriniumlaw32.MacroSettles'. -/
def macroSettlesUptoCard : Claim7 := { stood := { row := macroSettlesUptoRow, standIns := [], harness := (true, "fc68dfbad2f3a6fbf75b78cd6bee800178cd842f15f13a5f00abcbdbf4ba1a59"), looks := true }, kinds := [], alts := [], laidByText := true, laidKinds := [.data, .handle, .sentinel, .sentinel, .sentinel, .sentinel, .sentinel, .sentinel, .sentinel, .sentinel, .sentinel], laidTests := true, laidLooks := .later }
def MacroSettlesUptoCardSaid : Prop := Claim7.holds Tryz.pinned (.plain (OpenSpec.upto macroSettlesSpec)) macroSettlesUptoCard

/-- THE SECOND FORM's CARD OF 'scriniumlaw34.RecordLives'. -/
def recordLivesUptoCard : Claim7 := { stood := { row := recordLivesUptoRow, standIns := [], harness := (true, "fc68dfbad2f3a6fbf75b78cd6bee800178cd842f15f13a5f00abcbdbf4ba1a59"), looks := true }, kinds := [], alts := [], laidByText := true, laidKinds := [.data, .sentinel, .sentinel, .sentinel, .sentinel, .sentinel], laidTests := true, laidLooks := .later }
def RecordLivesUptoCardSaid : Prop := Claim7.holds Tryz.pinned (.plain (OpenSpec.upto recordLivesSpec)) recordLivesUptoCard
end Rows
end Go.Proofs.YtbjldjekgepopaaGreatDoor
