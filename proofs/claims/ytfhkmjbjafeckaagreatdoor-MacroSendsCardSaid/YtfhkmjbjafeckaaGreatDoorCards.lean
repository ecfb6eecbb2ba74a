/-
  DERIVED. GIVEN WITH THE SEED: THE CARDS: each row of YtfhkmjbjafeckaaGreatDoorRows.lean that lists a variable, with what it lists TIED to the program's text (the seventh form; the later family's looks); each row that meets fmt, with fmt's text TOLD by the authors' own Lean function (tested against real Go, not proved from fmt's source: count such statements apart). THE CARD IS WHAT COUNTS. Prove the row's statement (the work); the ties are given (YtfhkmjbjafeckaaGreatDoorTie.lean); close each card by the builder's one call (the guide's Derived/Test/ToyasCard.lean, 'card_holds'). Laid BY PROGRAM, IN A SANDBOX (cutbox-door.mjs). By AI agents, Wed Nov 11 2026. No macro, syntax, notation, axiom, sorry.
-/
import Derived.Test.YtfhkmjbjafeckaaGreatDoorRows
import GoSem.ClaimSeven
namespace Go.Proofs.YtfhkmjbjafeckaaGreatDoor
namespace Rows

/-- THE TIED CARD OF 'scriniumlaw32.MacroPlays'. -/
def macroPlaysCard : Claim7 := { stood := { row := macroPlaysRow, standIns := [], harness := (true, "0fb1056e67a3d771b9d2532db4f492c5afee68dd2f934d4d63b4589005aee918"), looks := true }, kinds := [], alts := [], laidByText := true, laidKinds := [.data, .sentinel, .sentinel, .sentinel, .sentinel, .sentinel, .sentinel, .sentinel, .sentinel, .sentinel], laidTests := true, laidLooks := .later }
def MacroPlaysCardSaid : Prop := Claim7.holds Tryz.pinned (.plain (OpenSpec.ofChange macroPlaysSpec)) macroPlaysCard

/-- THE TIED CARD OF 'scriniumlaw32.MacroBegins'. -/
def macroBeginsCard : Claim7 := { stood := { row := macroBeginsRow, standIns := [], harness := (true, "0fb1056e67a3d771b9d2532db4f492c5afee68dd2f934d4d63b4589005aee918"), looks := true }, kinds := [], alts := [], laidByText := true, laidKinds := [.data, .handle, .sentinel, .sentinel, .sentinel, .sentinel, .sentinel, .sentinel, .sentinel, .sentinel, .sentinel], laidTests := true, laidLooks := .later }
def MacroBeginsCardSaid : Prop := Claim7.holds Tryz.pinned (.plain (OpenSpec.ofChange macroBeginsSpec)) macroBeginsCard

/-- THE TIED CARD OF 'scriniumlaw32.MacroSends'. -/
def macroSendsCard : Claim7 := { stood := { row := macroSendsRow, standIns := [], harness := (true, "0fb1056e67a3d771b9d2532db4f492c5afee68dd2f934d4d63b4589005aee918"), looks := true }, kinds := [], alts := [], laidByText := true, laidKinds := [.data, .handle, .sentinel, .sentinel, .sentinel, .sentinel, .sentinel, .sentinel, .sentinel, .sentinel, .sentinel], laidTests := true, laidLooks := .later }
def MacroSendsCardSaid : Prop := Claim7.holds Tryz.pinned (.plain (OpenSpec.ofChange macroSendsSpec)) macroSendsCard

/-- THE TIED CARD OF 'scriniumlaw32.MacroSettles'. -/
def macroSettlesCard : Claim7 := { stood := { row := macroSettlesRow, standIns := [], harness := (true, "0fb1056e67a3d771b9d2532db4f492c5afee68dd2f934d4d63b4589005aee918"), looks := true }, kinds := [], alts := [], laidByText := true, laidKinds := [.data, .handle, .sentinel, .sentinel, .sentinel, .sentinel, .sentinel, .sentinel, .sentinel, .sentinel, .sentinel], laidTests := true, laidLooks := .later }
def MacroSettlesCardSaid : Prop := Claim7.holds Tryz.pinned (.plain (OpenSpec.ofChange macroSettlesSpec)) macroSettlesCard

/-- THE SECOND FORM's CARD OF 'scriniumlaw32.MacroPlays'. -/
def macroPlaysUptoCard : Claim7 := { stood := { row := macroPlaysUptoRow, standIns := [], harness := (true, "0fb1056e67a3d771b9d2532db4f492c5afee68dd2f934d4d63b4589005aee918"), looks := true }, kinds := [], alts := [], laidByText := true, laidKinds := [.data, .sentinel, .sentinel, .sentinel, .sentinel, .sentinel, .sentinel, .sentinel, .sentinel, .sentinel], laidTests := true, laidLooks := .later }
def MacroPlaysUptoCardSaid : Prop := Claim7.holds Tryz.pinned (.plain (OpenSpec.upto macroPlaysSpec)) macroPlaysUptoCard

/-- THE SECOND FORM's CARD OF 'scriniumlaw32.MacroBegins'. -/
def macroBeginsUptoCard : Claim7 := { stood := { row := macroBeginsUptoRow, standIns := [], harness := (true, "0fb1056e67a3d771b9d2532db4f492c5afee68dd2f934d4d63b4589005aee918"), looks := true }, kinds := [], alts := [], laidByText := true, laidKinds := [.data, .handle, .sentinel, .sentinel, .sentinel, .sentinel, .sentinel, .sentinel, .sentinel, .sentinel, .sentinel], laidTests := true, laidLooks := .later }
def MacroBeginsUptoCardSaid : Prop := Claim7.holds Tryz.pinned (.plain (OpenSpec.upto macroBeginsSpec)) macroBeginsUptoCard

/-- THE SECOND FORM's CARD OF 'scriniumlaw32.MacroSends'. -/
def macroSendsUptoCard : Claim7 := { stood := { row := macroSendsUptoRow, standIns := [], harness := (true, "0fb1056e67a3d771b9d2532db4f492c5afee68dd2f934d4d63b4589005aee918"), looks := true }, kinds := [], alts := [], laidByText := true, laidKinds := [.data, .handle, .sentinel, .sentinel, .sentinel, .sentinel, .sentinel, .sentinel, .sentinel, .sentinel, .sentinel], laidTests := true, laidLooks := .later }
def MacroSendsUptoCardSaid : Prop := Claim7.holds Tryz.pinned (.plain (OpenSpec.upto macroSendsSpec)) macroSendsUptoCard

/-- THE SECOND FORM's CARD OF 'scriniumlaw32.MacroSettles'. -/
def macroSettlesUptoCard : Claim7 := { stood := { row := macroSettlesUptoRow, standIns := [], harness := (true, "0fb1056e67a3d771b9d2532db4f492c5afee68dd2f934d4d63b4589005aee918"), looks := true }, kinds := [], alts := [], laidByText := true, laidKinds := [.data, .handle, .sentinel, .sentinel, .sentinel, .sentinel, .sentinel, .sentinel, .sentinel, .sentinel, .sentinel], laidTests := true, laidLooks := .later }
def MacroSettlesUptoCardSaid : Prop := Claim7.holds Tryz.pinned (.plain (OpenSpec.upto macroSettlesSpec)) macroSettlesUptoCard
end Rows
end Go.Proofs.YtfhkmjbjafeckaaGreatDoor
