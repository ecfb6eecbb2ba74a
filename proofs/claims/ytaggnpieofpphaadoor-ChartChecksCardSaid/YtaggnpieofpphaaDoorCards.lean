/-
  DERIVED. GIVEN WITH THE SEED: THE CARDS: each row of YtaggnpieofpphaaDoorRows.lean that lists a variable, with what it lists TIED to the program's text (the seventh form; the later family's looks); each row that meets fmt, with fmt's text TOLD by the authors' own Lean function (tested against real Go, not proved from fmt's source: count such statements apart). THE CARD IS WHAT COUNTS. Prove the row's statement (the work); the ties are given (YtaggnpieofpphaaDoorTie.lean); close each card by the builder's one call (the guide's Derived/Test/ToyasCard.lean, 'card_holds'). Laid BY PROGRAM, IN A SANDBOX (cutbox-door.mjs). By AI agents, Wed Nov 11 2026. No macro, syntax, notation, axiom, sorry.
-/
import Derived.Test.YtaggnpieofpphaaDoorRows
import GoSem.ClaimSeven
namespace Go.Proofs.YtaggnpieofpphaaDoor
namespace Rows

/-- THE TIED CARD OF 'scriniumlaw24.ChartTrees'. -/
def chartTreesCard : Claim7 := { stood := { row := chartTreesRow, standIns := [], harness := (true, "e2d5645c511838ee3b3b2a7e357d783196ea321413fe880120284e4cf7e49732"), looks := true }, kinds := [], alts := [], laidByText := true, laidKinds := [.handle, .sentinel, .sentinel], laidTests := true, laidLooks := .later }
def ChartTreesCardSaid : Prop := Claim7.holds Tryd.pinned (.plain (OpenSpec.ofChange chartTreesSpec)) chartTreesCard

/-- THE TIED CARD OF 'scriniumlaw24.ChartCopies'. -/
def chartCopiesCard : Claim7 := { stood := { row := chartCopiesRow, standIns := [], harness := (true, "e2d5645c511838ee3b3b2a7e357d783196ea321413fe880120284e4cf7e49732"), looks := true }, kinds := [], alts := [], laidByText := true, laidKinds := [.handle, .sentinel, .sentinel], laidTests := true, laidLooks := .later }
def ChartCopiesCardSaid : Prop := Claim7.holds Tryd.pinned (.plain (OpenSpec.ofChange chartCopiesSpec)) chartCopiesCard

/-- THE TIED CARD OF 'scriniumlaw24.ChartSames'. -/
def chartSamesCard : Claim7 := { stood := { row := chartSamesRow, standIns := [], harness := (true, "e2d5645c511838ee3b3b2a7e357d783196ea321413fe880120284e4cf7e49732"), looks := true }, kinds := [], alts := [], laidByText := true, laidKinds := [.handle, .sentinel, .sentinel], laidTests := true, laidLooks := .later }
def ChartSamesCardSaid : Prop := Claim7.holds Tryd.pinned (.plain (OpenSpec.ofChange chartSamesSpec)) chartSamesCard

/-- THE TIED CARD OF 'scriniumlaw24.ChartChecks'. -/
def chartChecksCard : Claim7 := { stood := { row := chartChecksRow, standIns := [], harness := (true, "e2d5645c511838ee3b3b2a7e357d783196ea321413fe880120284e4cf7e49732"), looks := true }, kinds := [], alts := [], laidByText := true, laidKinds := [.handle, .sentinel, .sentinel, .sentinel, .sentinel, .sentinel, .sentinel, .sentinel, .sentinel, .sentinel], laidTests := true, laidLooks := .later }
def ChartChecksCardSaid : Prop := Claim7.holds Tryd.pinned (.plain (OpenSpec.ofChange chartChecksSpec)) chartChecksCard

/-- THE TIED CARD OF 'scriniumlaw24.ChartNames'. -/
def chartNamesCard : Claim7 := { stood := { row := chartNamesRow, standIns := [], harness := (true, "e2d5645c511838ee3b3b2a7e357d783196ea321413fe880120284e4cf7e49732"), looks := true }, kinds := [], alts := [], laidByText := true, laidKinds := [.handle, .sentinel, .sentinel], laidTests := true, laidLooks := .later }
def ChartNamesCardSaid : Prop := Claim7.holds Tryd.pinned (.plain (OpenSpec.ofChange chartNamesSpec)) chartNamesCard

/-- THE SECOND FORM's CARD OF 'scriniumlaw24.ChartTrees'. -/
def chartTreesUptoCard : Claim7 := { stood := { row := chartTreesUptoRow, standIns := [], harness := (true, "e2d5645c511838ee3b3b2a7e357d783196ea321413fe880120284e4cf7e49732"), looks := true }, kinds := [], alts := [], laidByText := true, laidKinds := [.handle, .sentinel, .sentinel], laidTests := true, laidLooks := .later }
def ChartTreesUptoCardSaid : Prop := Claim7.holds Tryd.pinned (.plain (OpenSpec.upto chartTreesSpec)) chartTreesUptoCard

/-- THE SECOND FORM's CARD OF 'scriniumlaw24.ChartCopies'. -/
def chartCopiesUptoCard : Claim7 := { stood := { row := chartCopiesUptoRow, standIns := [], harness := (true, "e2d5645c511838ee3b3b2a7e357d783196ea321413fe880120284e4cf7e49732"), looks := true }, kinds := [], alts := [], laidByText := true, laidKinds := [.handle, .sentinel, .sentinel], laidTests := true, laidLooks := .later }
def ChartCopiesUptoCardSaid : Prop := Claim7.holds Tryd.pinned (.plain (OpenSpec.upto chartCopiesSpec)) chartCopiesUptoCard

/-- THE SECOND FORM's CARD OF 'scriniumlaw24.ChartSames'. -/
def chartSamesUptoCard : Claim7 := { stood := { row := chartSamesUptoRow, standIns := [], harness := (true, "e2d5645c511838ee3b3b2a7e357d783196ea321413fe880120284e4cf7e49732"), looks := true }, kinds := [], alts := [], laidByText := true, laidKinds := [.handle, .sentinel, .sentinel], laidTests := true, laidLooks := .later }
def ChartSamesUptoCardSaid : Prop := Claim7.holds Tryd.pinned (.plain (OpenSpec.upto chartSamesSpec)) chartSamesUptoCard

/-- THE SECOND FORM's CARD OF 'scriniumlaw24.ChartChecks'. -/
def chartChecksUptoCard : Claim7 := { stood := { row := chartChecksUptoRow, standIns := [], harness := (true, "e2d5645c511838ee3b3b2a7e357d783196ea321413fe880120284e4cf7e49732"), looks := true }, kinds := [], alts := [], laidByText := true, laidKinds := [.handle, .sentinel, .sentinel, .sentinel, .sentinel, .sentinel, .sentinel, .sentinel, .sentinel, .sentinel], laidTests := true, laidLooks := .later }
def ChartChecksUptoCardSaid : Prop := Claim7.holds Tryd.pinned (.plain (OpenSpec.upto chartChecksSpec)) chartChecksUptoCard

/-- THE SECOND FORM's CARD OF 'scriniumlaw24.ChartNames'. -/
def chartNamesUptoCard : Claim7 := { stood := { row := chartNamesUptoRow, standIns := [], harness := (true, "e2d5645c511838ee3b3b2a7e357d783196ea321413fe880120284e4cf7e49732"), looks := true }, kinds := [], alts := [], laidByText := true, laidKinds := [.handle, .sentinel, .sentinel], laidTests := true, laidLooks := .later }
def ChartNamesUptoCardSaid : Prop := Claim7.holds Tryd.pinned (.plain (OpenSpec.upto chartNamesSpec)) chartNamesUptoCard
end Rows
end Go.Proofs.YtaggnpieofpphaaDoor
