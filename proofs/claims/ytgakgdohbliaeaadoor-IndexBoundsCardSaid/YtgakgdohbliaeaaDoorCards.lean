/-
  DERIVED. GIVEN WITH THE SEED: THE CARDS: each row of YtgakgdohbliaeaaDoorRows.lean that lists a variable, with what it lists TIED to the program's text (the seventh form; the later family's looks); each row that meets fmt, with fmt's text TOLD by the authors' own Lean function (tested against real Go, not proved from fmt's source: count such statements apart). THE CARD IS WHAT COUNTS. Prove the row's statement (the work); the ties are given (YtgakgdohbliaeaaDoorTie.lean); close each card by the builder's one call (the guide's Derived/Test/ToyasCard.lean, 'card_holds'). Laid BY PROGRAM, IN A SANDBOX (cutbox-door.mjs). By AI agents, Wed Nov 11 2026. No macro, syntax, notation, axiom, sorry.
-/
import Derived.Test.YtgakgdohbliaeaaDoorRows
import GoSem.ClaimSeven
namespace Go.Proofs.YtgakgdohbliaeaaDoor
namespace Rows

/-- THE TIED CARD OF 'scriniumlaw35.IndexOrders'. -/
def indexOrdersCard : Claim7 := { stood := { row := indexOrdersRow, standIns := [], harness := (true, "c531371793527ba861331461007d59d20abf9a4d7a50af38a7830a95a35e5d73"), looks := true }, kinds := [], alts := [], laidByText := true, laidKinds := [.sentinel, .sentinel], laidTests := true, laidLooks := .later }
def IndexOrdersCardSaid : Prop := Claim7.holds Tryd.pinned (.plain (OpenSpec.ofChange indexOrdersSpec)) indexOrdersCard

/-- THE TIED CARD OF 'scriniumlaw35.IndexReads'. -/
def indexReadsCard : Claim7 := { stood := { row := indexReadsRow, standIns := [], harness := (true, "c531371793527ba861331461007d59d20abf9a4d7a50af38a7830a95a35e5d73"), looks := true }, kinds := [], alts := [], laidByText := true, laidKinds := [.sentinel, .sentinel], laidTests := true, laidLooks := .later }
def IndexReadsCardSaid : Prop := Claim7.holds Tryd.pinned (.plain (OpenSpec.ofChange indexReadsSpec)) indexReadsCard

/-- THE TIED CARD OF 'scriniumlaw35.IndexBounds'. -/
def indexBoundsCard : Claim7 := { stood := { row := indexBoundsRow, standIns := [], harness := (true, "c531371793527ba861331461007d59d20abf9a4d7a50af38a7830a95a35e5d73"), looks := true }, kinds := [], alts := [], laidByText := true, laidKinds := [.sentinel, .sentinel, .sentinel, .sentinel, .sentinel, .sentinel, .sentinel, .sentinel, .sentinel], laidTests := true, laidLooks := .later }
def IndexBoundsCardSaid : Prop := Claim7.holds Tryd.pinned (.plain (OpenSpec.ofChange indexBoundsSpec)) indexBoundsCard

/-- THE TIED CARD OF 'scriniumlaw35.IndexBack'. -/
def indexBackCard : Claim7 := { stood := { row := indexBackRow, standIns := [], harness := (true, "c531371793527ba861331461007d59d20abf9a4d7a50af38a7830a95a35e5d73"), looks := true }, kinds := [], alts := [], laidByText := true, laidKinds := [.sentinel, .sentinel], laidTests := true, laidLooks := .later }
def IndexBackCardSaid : Prop := Claim7.holds Tryd.pinned (.plain (OpenSpec.ofChange indexBackSpec)) indexBackCard

/-- THE TIED CARD OF 'scriniumlaw35.IndexMetas'. -/
def indexMetasCard : Claim7 := { stood := { row := indexMetasRow, standIns := [], harness := (true, "c531371793527ba861331461007d59d20abf9a4d7a50af38a7830a95a35e5d73"), looks := true }, kinds := [], alts := [], laidByText := true, laidKinds := [.sentinel, .sentinel, .sentinel, .sentinel, .sentinel, .sentinel, .sentinel, .sentinel, .sentinel], laidTests := true, laidLooks := .later }
def IndexMetasCardSaid : Prop := Claim7.holds Tryd.pinned (.plain (OpenSpec.ofChange indexMetasSpec)) indexMetasCard

/-- THE TIED CARD OF 'scriniumlaw35.IndexKeys'. -/
def indexKeysCard : Claim7 := { stood := { row := indexKeysRow, standIns := [], harness := (true, "c531371793527ba861331461007d59d20abf9a4d7a50af38a7830a95a35e5d73"), looks := true }, kinds := [], alts := [], laidByText := true, laidKinds := [.sentinel, .sentinel, .sentinel, .sentinel, .sentinel, .sentinel, .sentinel, .sentinel, .sentinel], laidTests := true, laidLooks := .later }
def IndexKeysCardSaid : Prop := Claim7.holds Tryd.pinned (.plain (OpenSpec.ofChange indexKeysSpec)) indexKeysCard

/-- THE TIED CARD OF 'scriniumlaw35.IndexTimers'. -/
def indexTimersCard : Claim7 := { stood := { row := indexTimersRow, standIns := [], harness := (true, "c531371793527ba861331461007d59d20abf9a4d7a50af38a7830a95a35e5d73"), looks := true }, kinds := [], alts := [], laidByText := true, laidKinds := [.sentinel, .sentinel, .sentinel, .sentinel, .sentinel, .sentinel, .sentinel, .sentinel, .sentinel], laidTests := true, laidLooks := .later }
def IndexTimersCardSaid : Prop := Claim7.holds Tryd.pinned (.plain (OpenSpec.ofChange indexTimersSpec)) indexTimersCard

/-- THE SECOND FORM's CARD OF 'scriniumlaw35.IndexOrders'. -/
def indexOrdersUptoCard : Claim7 := { stood := { row := indexOrdersUptoRow, standIns := [], harness := (true, "c531371793527ba861331461007d59d20abf9a4d7a50af38a7830a95a35e5d73"), looks := true }, kinds := [], alts := [], laidByText := true, laidKinds := [.sentinel, .sentinel], laidTests := true, laidLooks := .later }
def IndexOrdersUptoCardSaid : Prop := Claim7.holds Tryd.pinned (.plain (OpenSpec.upto indexOrdersSpec)) indexOrdersUptoCard

/-- THE SECOND FORM's CARD OF 'scriniumlaw35.IndexReads'. -/
def indexReadsUptoCard : Claim7 := { stood := { row := indexReadsUptoRow, standIns := [], harness := (true, "c531371793527ba861331461007d59d20abf9a4d7a50af38a7830a95a35e5d73"), looks := true }, kinds := [], alts := [], laidByText := true, laidKinds := [.sentinel, .sentinel], laidTests := true, laidLooks := .later }
def IndexReadsUptoCardSaid : Prop := Claim7.holds Tryd.pinned (.plain (OpenSpec.upto indexReadsSpec)) indexReadsUptoCard

/-- THE SECOND FORM's CARD OF 'scriniumlaw35.IndexBounds'. -/
def indexBoundsUptoCard : Claim7 := { stood := { row := indexBoundsUptoRow, standIns := [], harness := (true, "c531371793527ba861331461007d59d20abf9a4d7a50af38a7830a95a35e5d73"), looks := true }, kinds := [], alts := [], laidByText := true, laidKinds := [.sentinel, .sentinel, .sentinel, .sentinel, .sentinel, .sentinel, .sentinel, .sentinel, .sentinel], laidTests := true, laidLooks := .later }
def IndexBoundsUptoCardSaid : Prop := Claim7.holds Tryd.pinned (.plain (OpenSpec.upto indexBoundsSpec)) indexBoundsUptoCard

/-- THE SECOND FORM's CARD OF 'scriniumlaw35.IndexBack'. -/
def indexBackUptoCard : Claim7 := { stood := { row := indexBackUptoRow, standIns := [], harness := (true, "c531371793527ba861331461007d59d20abf9a4d7a50af38a7830a95a35e5d73"), looks := true }, kinds := [], alts := [], laidByText := true, laidKinds := [.sentinel, .sentinel], laidTests := true, laidLooks := .later }
def IndexBackUptoCardSaid : Prop := Claim7.holds Tryd.pinned (.plain (OpenSpec.upto indexBackSpec)) indexBackUptoCard

/-- THE SECOND FORM's CARD OF 'scriniumlaw35.IndexMetas'. -/
def indexMetasUptoCard : Claim7 := { stood := { row := indexMetasUptoRow, standIns := [], harness := (true, "c531371793527ba861331461007d59d20abf9a4d7a50af38a7830a95a35e5d73"), looks := true }, kinds := [], alts := [], laidByText := true, laidKinds := [.sentinel, .sentinel, .sentinel, .sentinel, .sentinel, .sentinel, .sentinel, .sentinel, .sentinel], laidTests := true, laidLooks := .later }
def IndexMetasUptoCardSaid : Prop := Claim7.holds Tryd.pinned (.plain (OpenSpec.upto indexMetasSpec)) indexMetasUptoCard

/-- THE SECOND FORM's CARD OF 'scriniumlaw35.IndexKeys'. -/
def indexKeysUptoCard : Claim7 := { stood := { row := indexKeysUptoRow, standIns := [], harness := (true, "c531371793527ba861331461007d59d20abf9a4d7a50af38a7830a95a35e5d73"), looks := true }, kinds := [], alts := [], laidByText := true, laidKinds := [.sentinel, .sentinel, .sentinel, .sentinel, .sentinel, .sentinel, .sentinel, .sentinel, .sentinel], laidTests := true, laidLooks := .later }
def IndexKeysUptoCardSaid : Prop := Claim7.holds Tryd.pinned (.plain (OpenSpec.upto indexKeysSpec)) indexKeysUptoCard

/-- THE SECOND FORM's CARD OF 'scriniumlaw35.IndexTimers'. -/
def indexTimersUptoCard : Claim7 := { stood := { row := indexTimersUptoRow, standIns := [], harness := (true, "c531371793527ba861331461007d59d20abf9a4d7a50af38a7830a95a35e5d73"), looks := true }, kinds := [], alts := [], laidByText := true, laidKinds := [.sentinel, .sentinel, .sentinel, .sentinel, .sentinel, .sentinel, .sentinel, .sentinel, .sentinel], laidTests := true, laidLooks := .later }
def IndexTimersUptoCardSaid : Prop := Claim7.holds Tryd.pinned (.plain (OpenSpec.upto indexTimersSpec)) indexTimersUptoCard
end Rows
end Go.Proofs.YtgakgdohbliaeaaDoor
