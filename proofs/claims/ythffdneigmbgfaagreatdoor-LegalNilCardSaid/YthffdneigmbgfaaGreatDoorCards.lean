/-
  DERIVED. GIVEN WITH THE SEED: THE CARDS: each row of YthffdneigmbgfaaGreatDoorRows.lean that lists a variable, with what it lists TIED to the program's text (the seventh form; the later family's looks); each row that meets fmt, with fmt's text TOLD by the authors' own Lean function (tested against real Go, not proved from fmt's source: count such statements apart). THE CARD IS WHAT COUNTS. Prove the row's statement (the work); the ties are given (YthffdneigmbgfaaGreatDoorTie.lean); close each card by the builder's one call (the guide's Derived/Test/ToyasCard.lean, 'card_holds'). Laid BY PROGRAM, IN A SANDBOX (cutbox-door.mjs). By AI agents, Wed Nov 11 2026. No macro, syntax, notation, axiom, sorry.
-/
import Derived.Test.YthffdneigmbgfaaGreatDoorRows
import GoSem.ClaimSeven
namespace Go.Proofs.YthffdneigmbgfaaGreatDoor
namespace Rows

/-- THE TIED CARD OF 'scriniumlaw28.TableTrans'. -/
def tableTransCard : Claim7 := { stood := { row := tableTransRow, standIns := [], harness := (true, "38b8ae5861849b58a7cd86e8f22c3b0eff80d94e71456be90cd0e97da922089a"), looks := true }, kinds := [], alts := [], laidByText := true, laidKinds := [.data, .sentinel, .sentinel], laidTests := true, laidLooks := .later }
def TableTransCardSaid : Prop := Claim7.holds Tryz.pinned (.plain (OpenSpec.ofChange tableTransSpec)) tableTransCard

/-- THE TIED CARD OF 'scriniumlaw28.TableClosed'. -/
def tableClosedCard : Claim7 := { stood := { row := tableClosedRow, standIns := [], harness := (true, "38b8ae5861849b58a7cd86e8f22c3b0eff80d94e71456be90cd0e97da922089a"), looks := true }, kinds := [], alts := [], laidByText := true, laidKinds := [.data, .sentinel, .sentinel], laidTests := true, laidLooks := .later }
def TableClosedCardSaid : Prop := Claim7.holds Tryz.pinned (.plain (OpenSpec.ofChange tableClosedSpec)) tableClosedCard

/-- THE TIED CARD OF 'scriniumlaw28.TableStays'. -/
def tableStaysCard : Claim7 := { stood := { row := tableStaysRow, standIns := [], harness := (true, "38b8ae5861849b58a7cd86e8f22c3b0eff80d94e71456be90cd0e97da922089a"), looks := true }, kinds := [], alts := [], laidByText := true, laidKinds := [.data, .sentinel, .sentinel], laidTests := true, laidLooks := .later }
def TableStaysCardSaid : Prop := Claim7.holds Tryz.pinned (.plain (OpenSpec.ofChange tableStaysSpec)) tableStaysCard

/-- THE TIED CARD OF 'scriniumlaw28.TableBegins'. -/
def tableBeginsCard : Claim7 := { stood := { row := tableBeginsRow, standIns := [], harness := (true, "38b8ae5861849b58a7cd86e8f22c3b0eff80d94e71456be90cd0e97da922089a"), looks := true }, kinds := [], alts := [], laidByText := true, laidKinds := [.data, .sentinel, .sentinel], laidTests := true, laidLooks := .later }
def TableBeginsCardSaid : Prop := Claim7.holds Tryz.pinned (.plain (OpenSpec.ofChange tableBeginsSpec)) tableBeginsCard

/-- THE TIED CARD OF 'scriniumlaw28.TableReaches'. -/
def tableReachesCard : Claim7 := { stood := { row := tableReachesRow, standIns := [], harness := (true, "38b8ae5861849b58a7cd86e8f22c3b0eff80d94e71456be90cd0e97da922089a"), looks := true }, kinds := [], alts := [], laidByText := true, laidKinds := [.data, .sentinel, .sentinel], laidTests := true, laidLooks := .later }
def TableReachesCardSaid : Prop := Claim7.holds Tryz.pinned (.plain (OpenSpec.ofChange tableReachesSpec)) tableReachesCard

/-- THE TIED CARD OF 'scriniumlaw29.LegalFirst'. -/
def legalFirstCard : Claim7 := { stood := { row := legalFirstRow, standIns := [], harness := (true, "38b8ae5861849b58a7cd86e8f22c3b0eff80d94e71456be90cd0e97da922089a"), looks := true }, kinds := [], alts := [], laidByText := true, laidKinds := [.data, .sentinel, .sentinel, .sentinel], laidTests := true, laidLooks := .later }
def LegalFirstCardSaid : Prop := Claim7.holds Tryz.pinned (.plain (OpenSpec.ofChange legalFirstSpec)) legalFirstCard

/-- THE TIED CARD OF 'scriniumlaw29.LegalCounts'. -/
def legalCountsCard : Claim7 := { stood := { row := legalCountsRow, standIns := [], harness := (true, "38b8ae5861849b58a7cd86e8f22c3b0eff80d94e71456be90cd0e97da922089a"), looks := true }, kinds := [], alts := [], laidByText := true, laidKinds := [.data, .sentinel, .sentinel, .sentinel, .sentinel, .sentinel, .sentinel, .sentinel, .sentinel, .sentinel], laidTests := true, laidLooks := .later }
def LegalCountsCardSaid : Prop := Claim7.holds Tryz.pinned (.plain (OpenSpec.ofChange legalCountsSpec)) legalCountsCard

/-- THE TIED CARD OF 'scriniumlaw29.LegalClosed'. -/
def legalClosedCard : Claim7 := { stood := { row := legalClosedRow, standIns := [], harness := (true, "38b8ae5861849b58a7cd86e8f22c3b0eff80d94e71456be90cd0e97da922089a"), looks := true }, kinds := [], alts := [], laidByText := true, laidKinds := [.data, .sentinel, .sentinel, .sentinel, .sentinel, .sentinel, .sentinel, .sentinel, .sentinel, .sentinel], laidTests := true, laidLooks := .later }
def LegalClosedCardSaid : Prop := Claim7.holds Tryz.pinned (.plain (OpenSpec.ofChange legalClosedSpec)) legalClosedCard

/-- THE TIED CARD OF 'scriniumlaw29.LegalNumbers'. -/
def legalNumbersCard : Claim7 := { stood := { row := legalNumbersRow, standIns := [], harness := (true, "38b8ae5861849b58a7cd86e8f22c3b0eff80d94e71456be90cd0e97da922089a"), looks := true }, kinds := [], alts := [], laidByText := true, laidKinds := [.data, .sentinel, .sentinel, .sentinel, .sentinel, .sentinel, .sentinel, .sentinel, .sentinel, .sentinel], laidTests := true, laidLooks := .later }
def LegalNumbersCardSaid : Prop := Claim7.holds Tryz.pinned (.plain (OpenSpec.ofChange legalNumbersSpec)) legalNumbersCard

/-- THE TIED CARD OF 'scriniumlaw29.LegalNil'. -/
def legalNilCard : Claim7 := { stood := { row := legalNilRow, standIns := [], harness := (true, "38b8ae5861849b58a7cd86e8f22c3b0eff80d94e71456be90cd0e97da922089a"), looks := true }, kinds := [], alts := [], laidByText := true, laidKinds := [.data, .sentinel, .sentinel, .sentinel, .sentinel, .sentinel, .sentinel, .sentinel, .sentinel, .sentinel], laidTests := true, laidLooks := .later }
def LegalNilCardSaid : Prop := Claim7.holds Tryz.pinned (.plain (OpenSpec.ofChange legalNilSpec)) legalNilCard

/-- THE TIED CARD OF 'scriniumlaw28.TableNews'. -/
def tableNewsCard : Claim7 := { stood := { row := tableNewsRow, standIns := [], harness := (true, "38b8ae5861849b58a7cd86e8f22c3b0eff80d94e71456be90cd0e97da922089a"), looks := true }, kinds := [], alts := [], laidByText := true, laidKinds := [.data, .handle, .sentinel, .sentinel, .sentinel, .sentinel, .sentinel, .sentinel, .sentinel, .sentinel, .sentinel], laidTests := true, laidLooks := .later }
def TableNewsCardSaid : Prop := Claim7.holds Tryz.pinned (.plain (OpenSpec.ofChange tableNewsSpec)) tableNewsCard

/-- THE SECOND FORM's CARD OF 'scriniumlaw28.TableTrans'. -/
def tableTransUptoCard : Claim7 := { stood := { row := tableTransUptoRow, standIns := [], harness := (true, "38b8ae5861849b58a7cd86e8f22c3b0eff80d94e71456be90cd0e97da922089a"), looks := true }, kinds := [], alts := [], laidByText := true, laidKinds := [.data, .sentinel, .sentinel], laidTests := true, laidLooks := .later }
def TableTransUptoCardSaid : Prop := Claim7.holds Tryz.pinned (.plain (OpenSpec.upto tableTransSpec)) tableTransUptoCard

/-- THE SECOND FORM's CARD OF 'scriniumlaw28.TableClosed'. -/
def tableClosedUptoCard : Claim7 := { stood := { row := tableClosedUptoRow, standIns := [], harness := (true, "38b8ae5861849b58a7cd86e8f22c3b0eff80d94e71456be90cd0e97da922089a"), looks := true }, kinds := [], alts := [], laidByText := true, laidKinds := [.data, .sentinel, .sentinel], laidTests := true, laidLooks := .later }
def TableClosedUptoCardSaid : Prop := Claim7.holds Tryz.pinned (.plain (OpenSpec.upto tableClosedSpec)) tableClosedUptoCard

/-- THE SECOND FORM's CARD OF 'scriniumlaw28.TableStays'. -/
def tableStaysUptoCard : Claim7 := { stood := { row := tableStaysUptoRow, standIns := [], harness := (true, "38b8ae5861849b58a7cd86e8f22c3b0eff80d94e71456be90cd0e97da922089a"), looks := true }, kinds := [], alts := [], laidByText := true, laidKinds := [.data, .sentinel, .sentinel], laidTests := true, laidLooks := .later }
def TableStaysUptoCardSaid : Prop := Claim7.holds Tryz.pinned (.plain (OpenSpec.upto tableStaysSpec)) tableStaysUptoCard

/-- THE SECOND FORM's CARD OF 'scriniumlaw28.TableBegins'. -/
def tableBeginsUptoCard : Claim7 := { stood := { row := tableBeginsUptoRow, standIns := [], harness := (true, "38b8ae5861849b58a7cd86e8f22c3b0eff80d94e71456be90cd0e97da922089a"), looks := true }, kinds := [], alts := [], laidByText := true, laidKinds := [.data, .sentinel, .sentinel], laidTests := true, laidLooks := .later }
def TableBeginsUptoCardSaid : Prop := Claim7.holds Tryz.pinned (.plain (OpenSpec.upto tableBeginsSpec)) tableBeginsUptoCard

/-- THE SECOND FORM's CARD OF 'scriniumlaw28.TableReaches'. -/
def tableReachesUptoCard : Claim7 := { stood := { row := tableReachesUptoRow, standIns := [], harness := (true, "38b8ae5861849b58a7cd86e8f22c3b0eff80d94e71456be90cd0e97da922089a"), looks := true }, kinds := [], alts := [], laidByText := true, laidKinds := [.data, .sentinel, .sentinel], laidTests := true, laidLooks := .later }
def TableReachesUptoCardSaid : Prop := Claim7.holds Tryz.pinned (.plain (OpenSpec.upto tableReachesSpec)) tableReachesUptoCard

/-- THE SECOND FORM's CARD OF 'scriniumlaw29.LegalFirst'. -/
def legalFirstUptoCard : Claim7 := { stood := { row := legalFirstUptoRow, standIns := [], harness := (true, "38b8ae5861849b58a7cd86e8f22c3b0eff80d94e71456be90cd0e97da922089a"), looks := true }, kinds := [], alts := [], laidByText := true, laidKinds := [.data, .sentinel, .sentinel, .sentinel], laidTests := true, laidLooks := .later }
def LegalFirstUptoCardSaid : Prop := Claim7.holds Tryz.pinned (.plain (OpenSpec.upto legalFirstSpec)) legalFirstUptoCard

/-- THE SECOND FORM's CARD OF 'scriniumlaw29.LegalCounts'. -/
def legalCountsUptoCard : Claim7 := { stood := { row := legalCountsUptoRow, standIns := [], harness := (true, "38b8ae5861849b58a7cd86e8f22c3b0eff80d94e71456be90cd0e97da922089a"), looks := true }, kinds := [], alts := [], laidByText := true, laidKinds := [.data, .sentinel, .sentinel, .sentinel, .sentinel, .sentinel, .sentinel, .sentinel, .sentinel, .sentinel], laidTests := true, laidLooks := .later }
def LegalCountsUptoCardSaid : Prop := Claim7.holds Tryz.pinned (.plain (OpenSpec.upto legalCountsSpec)) legalCountsUptoCard

/-- THE SECOND FORM's CARD OF 'scriniumlaw29.LegalClosed'. -/
def legalClosedUptoCard : Claim7 := { stood := { row := legalClosedUptoRow, standIns := [], harness := (true, "38b8ae5861849b58a7cd86e8f22c3b0eff80d94e71456be90cd0e97da922089a"), looks := true }, kinds := [], alts := [], laidByText := true, laidKinds := [.data, .sentinel, .sentinel, .sentinel, .sentinel, .sentinel, .sentinel, .sentinel, .sentinel, .sentinel], laidTests := true, laidLooks := .later }
def LegalClosedUptoCardSaid : Prop := Claim7.holds Tryz.pinned (.plain (OpenSpec.upto legalClosedSpec)) legalClosedUptoCard

/-- THE SECOND FORM's CARD OF 'scriniumlaw29.LegalNumbers'. -/
def legalNumbersUptoCard : Claim7 := { stood := { row := legalNumbersUptoRow, standIns := [], harness := (true, "38b8ae5861849b58a7cd86e8f22c3b0eff80d94e71456be90cd0e97da922089a"), looks := true }, kinds := [], alts := [], laidByText := true, laidKinds := [.data, .sentinel, .sentinel, .sentinel, .sentinel, .sentinel, .sentinel, .sentinel, .sentinel, .sentinel], laidTests := true, laidLooks := .later }
def LegalNumbersUptoCardSaid : Prop := Claim7.holds Tryz.pinned (.plain (OpenSpec.upto legalNumbersSpec)) legalNumbersUptoCard

/-- THE SECOND FORM's CARD OF 'scriniumlaw29.LegalNil'. -/
def legalNilUptoCard : Claim7 := { stood := { row := legalNilUptoRow, standIns := [], harness := (true, "38b8ae5861849b58a7cd86e8f22c3b0eff80d94e71456be90cd0e97da922089a"), looks := true }, kinds := [], alts := [], laidByText := true, laidKinds := [.data, .sentinel, .sentinel, .sentinel, .sentinel, .sentinel, .sentinel, .sentinel, .sentinel, .sentinel], laidTests := true, laidLooks := .later }
def LegalNilUptoCardSaid : Prop := Claim7.holds Tryz.pinned (.plain (OpenSpec.upto legalNilSpec)) legalNilUptoCard

/-- THE SECOND FORM's CARD OF 'scriniumlaw28.TableNews'. -/
def tableNewsUptoCard : Claim7 := { stood := { row := tableNewsUptoRow, standIns := [], harness := (true, "38b8ae5861849b58a7cd86e8f22c3b0eff80d94e71456be90cd0e97da922089a"), looks := true }, kinds := [], alts := [], laidByText := true, laidKinds := [.data, .handle, .sentinel, .sentinel, .sentinel, .sentinel, .sentinel, .sentinel, .sentinel, .sentinel, .sentinel], laidTests := true, laidLooks := .later }
def TableNewsUptoCardSaid : Prop := Claim7.holds Tryz.pinned (.plain (OpenSpec.upto tableNewsSpec)) tableNewsUptoCard
end Rows
end Go.Proofs.YthffdneigmbgfaaGreatDoor
