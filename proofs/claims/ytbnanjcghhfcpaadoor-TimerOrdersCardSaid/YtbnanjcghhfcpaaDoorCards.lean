/-
  DERIVED. GIVEN WITH THE SEED: THE CARDS: each row of YtbnanjcghhfcpaaDoorRows.lean that lists a variable, with what it lists TIED to the program's text (the seventh form; the later family's looks); each row that meets fmt, with fmt's text TOLD by the authors' own Lean function (tested against real Go, not proved from fmt's source: count such statements apart). THE CARD IS WHAT COUNTS. Prove the row's statement (the work); the ties are given (YtbnanjcghhfcpaaDoorTie.lean); close each card by the builder's one call (the guide's Derived/Test/ToyasCard.lean, 'card_holds'). Laid BY PROGRAM, IN A SANDBOX (cutbox-door.mjs). By AI agents, Wed Nov 11 2026. No macro, syntax, notation, axiom, sorry.
-/
import Derived.Test.YtbnanjcghhfcpaaDoorRows
import GoSem.ClaimSeven
namespace Go.Proofs.YtbnanjcghhfcpaaDoor
namespace Rows

/-- THE TIED CARD OF 'scriniumlaw33.TimerOrders'. -/
def timerOrdersCard : Claim7 := { stood := { row := timerOrdersRow, standIns := [], harness := (true, "9ee8a52d2af193d8f31a71683b6f413f91b3f9e35fee9cd24b283c939e351fa9"), looks := true }, kinds := [], alts := [], laidByText := true, laidKinds := [.sentinel, .sentinel, .sentinel, .sentinel, .sentinel, .sentinel, .sentinel, .sentinel, .sentinel], laidTests := true, laidLooks := .later }
def TimerOrdersCardSaid : Prop := Claim7.holds Tryd.pinned (.plain (OpenSpec.ofChange timerOrdersSpec)) timerOrdersCard

/-- THE TIED CARD OF 'scriniumlaw35.IndexTimers'. -/
def indexTimersCard : Claim7 := { stood := { row := indexTimersRow, standIns := [], harness := (true, "9ee8a52d2af193d8f31a71683b6f413f91b3f9e35fee9cd24b283c939e351fa9"), looks := true }, kinds := [], alts := [], laidByText := true, laidKinds := [.sentinel, .sentinel, .sentinel, .sentinel, .sentinel, .sentinel, .sentinel, .sentinel, .sentinel], laidTests := true, laidLooks := .later }
def IndexTimersCardSaid : Prop := Claim7.holds Tryd.pinned (.plain (OpenSpec.ofChange indexTimersSpec)) indexTimersCard

/-- THE SECOND FORM's CARD OF 'scriniumlaw33.TimerOrders'. -/
def timerOrdersUptoCard : Claim7 := { stood := { row := timerOrdersUptoRow, standIns := [], harness := (true, "9ee8a52d2af193d8f31a71683b6f413f91b3f9e35fee9cd24b283c939e351fa9"), looks := true }, kinds := [], alts := [], laidByText := true, laidKinds := [.sentinel, .sentinel, .sentinel, .sentinel, .sentinel, .sentinel, .sentinel, .sentinel, .sentinel], laidTests := true, laidLooks := .later }
def TimerOrdersUptoCardSaid : Prop := Claim7.holds Tryd.pinned (.plain (OpenSpec.upto timerOrdersSpec)) timerOrdersUptoCard

/-- THE SECOND FORM's CARD OF 'scriniumlaw35.IndexTimers'. -/
def indexTimersUptoCard : Claim7 := { stood := { row := indexTimersUptoRow, standIns := [], harness := (true, "9ee8a52d2af193d8f31a71683b6f413f91b3f9e35fee9cd24b283c939e351fa9"), looks := true }, kinds := [], alts := [], laidByText := true, laidKinds := [.sentinel, .sentinel, .sentinel, .sentinel, .sentinel, .sentinel, .sentinel, .sentinel, .sentinel], laidTests := true, laidLooks := .later }
def IndexTimersUptoCardSaid : Prop := Claim7.holds Tryd.pinned (.plain (OpenSpec.upto indexTimersSpec)) indexTimersUptoCard
end Rows
end Go.Proofs.YtbnanjcghhfcpaaDoor
