/-
  DERIVED. GIVEN WITH THE SEED: THE CARDS: each row of YtlmekdfleciejaaGreatDoorRows.lean that lists a variable, with what it lists TIED to the program's text (the seventh form; the later family's looks); each row that meets fmt, with fmt's text TOLD by the authors' own Lean function (tested against real Go, not proved from fmt's source: count such statements apart). THE CARD IS WHAT COUNTS. Prove the row's statement (the work); the ties are given (YtlmekdfleciejaaGreatDoorTie.lean); close each card by the builder's one call (the guide's Derived/Test/ToyasCard.lean, 'card_holds'). Laid BY PROGRAM, IN A SANDBOX (cutbox-door.mjs). By AI agents, Wed Nov 11 2026. No macro, syntax, notation, axiom, sorry.
-/
import Derived.Test.YtlmekdfleciejaaGreatDoorRows
import GoSem.ClaimSeven
namespace Go.Proofs.YtlmekdfleciejaaGreatDoor
namespace Rows

/-- THE TIED CARD OF 'scriniumlaw28.TableStays'. -/
def tableStaysCard : Claim7 := { stood := { row := tableStaysRow, standIns := [], harness := (true, "d06bd9a2b07fde859d0d860e4fc14392327b39acb29799d92147ababfda4fe06"), looks := true }, kinds := [], alts := [], laidByText := true, laidKinds := [.data, .sentinel, .sentinel], laidTests := true, laidLooks := .later }
def TableStaysCardSaid : Prop := Claim7.holds Tryz.pinned (.plain (OpenSpec.ofChange tableStaysSpec)) tableStaysCard

/-- THE TIED CARD OF 'scriniumlaw28.TableReaches'. -/
def tableReachesCard : Claim7 := { stood := { row := tableReachesRow, standIns := [], harness := (true, "d06bd9a2b07fde859d0d860e4fc14392327b39acb29799d92147ababfda4fe06"), looks := true }, kinds := [], alts := [], laidByText := true, laidKinds := [.data, .sentinel, .sentinel], laidTests := true, laidLooks := .later }
def TableReachesCardSaid : Prop := Claim7.holds Tryz.pinned (.plain (OpenSpec.ofChange tableReachesSpec)) tableReachesCard

/-- THE TIED CARD OF 'scriniumlaw28.TableNews'. -/
def tableNewsCard : Claim7 := { stood := { row := tableNewsRow, standIns := [], harness := (true, "d06bd9a2b07fde859d0d860e4fc14392327b39acb29799d92147ababfda4fe06"), looks := true }, kinds := [], alts := [], laidByText := true, laidKinds := [.data, .handle, .sentinel, .sentinel, .sentinel, .sentinel, .sentinel, .sentinel, .sentinel, .sentinel, .sentinel], laidTests := true, laidLooks := .later }
def TableNewsCardSaid : Prop := Claim7.holds Tryz.pinned (.plain (OpenSpec.ofChange tableNewsSpec)) tableNewsCard

/-- THE TIED CARD OF 'scriniumlaw30.EnterBack'. -/
def enterBackCard : Claim7 := { stood := { row := enterBackRow, standIns := [], harness := (true, "d06bd9a2b07fde859d0d860e4fc14392327b39acb29799d92147ababfda4fe06"), looks := true }, kinds := [], alts := [], laidByText := true, laidKinds := [.data, .sentinel, .sentinel, .sentinel], laidTests := true, laidLooks := .later }
def EnterBackCardSaid : Prop := Claim7.holds Tryz.pinned (.plain (OpenSpec.ofChange enterBackSpec)) enterBackCard

/-- THE TIED CARD OF 'scriniumlaw30.EnterLegal'. -/
def enterLegalCard : Claim7 := { stood := { row := enterLegalRow, standIns := [], harness := (true, "d06bd9a2b07fde859d0d860e4fc14392327b39acb29799d92147ababfda4fe06"), looks := true }, kinds := [], alts := [], laidByText := true, laidKinds := [.data, .sentinel, .sentinel, .sentinel], laidTests := true, laidLooks := .later }
def EnterLegalCardSaid : Prop := Claim7.holds Tryz.pinned (.plain (OpenSpec.ofChange enterLegalSpec)) enterLegalCard

/-- THE TIED CARD OF 'scriniumlaw30.EnterChecks'. -/
def enterChecksCard : Claim7 := { stood := { row := enterChecksRow, standIns := [], harness := (true, "d06bd9a2b07fde859d0d860e4fc14392327b39acb29799d92147ababfda4fe06"), looks := true }, kinds := [], alts := [], laidByText := true, laidKinds := [.data, .sentinel, .sentinel, .sentinel, .sentinel, .sentinel, .sentinel, .sentinel, .sentinel, .sentinel], laidTests := true, laidLooks := .later }
def EnterChecksCardSaid : Prop := Claim7.holds Tryz.pinned (.plain (OpenSpec.ofChange enterChecksSpec)) enterChecksCard

/-- THE TIED CARD OF 'scriniumlaw30.EnterMoves'. -/
def enterMovesCard : Claim7 := { stood := { row := enterMovesRow, standIns := [], harness := (true, "d06bd9a2b07fde859d0d860e4fc14392327b39acb29799d92147ababfda4fe06"), looks := true }, kinds := [], alts := [], laidByText := true, laidKinds := [.data, .sentinel, .sentinel, .sentinel, .sentinel, .sentinel, .sentinel, .sentinel, .sentinel, .sentinel], laidTests := true, laidLooks := .later }
def EnterMovesCardSaid : Prop := Claim7.holds Tryz.pinned (.plain (OpenSpec.ofChange enterMovesSpec)) enterMovesCard

/-- THE TIED CARD OF 'scriniumlaw30.EnterTargets'. -/
def enterTargetsCard : Claim7 := { stood := { row := enterTargetsRow, standIns := [], harness := (true, "d06bd9a2b07fde859d0d860e4fc14392327b39acb29799d92147ababfda4fe06"), looks := true }, kinds := [], alts := [], laidByText := true, laidKinds := [.data, .sentinel, .sentinel, .sentinel, .sentinel, .sentinel, .sentinel, .sentinel, .sentinel, .sentinel], laidTests := true, laidLooks := .later }
def EnterTargetsCardSaid : Prop := Claim7.holds Tryz.pinned (.plain (OpenSpec.ofChange enterTargetsSpec)) enterTargetsCard

/-- THE TIED CARD OF 'scriniumlaw30.EnterRemembers'. -/
def enterRemembersCard : Claim7 := { stood := { row := enterRemembersRow, standIns := [], harness := (true, "d06bd9a2b07fde859d0d860e4fc14392327b39acb29799d92147ababfda4fe06"), looks := true }, kinds := [], alts := [], laidByText := true, laidKinds := [.data, .sentinel, .sentinel, .sentinel, .sentinel, .sentinel, .sentinel, .sentinel, .sentinel, .sentinel], laidTests := true, laidLooks := .later }
def EnterRemembersCardSaid : Prop := Claim7.holds Tryz.pinned (.plain (OpenSpec.ofChange enterRemembersSpec)) enterRemembersCard

/-- THE TIED CARD OF 'scriniumlaw30.EnterDomains'. -/
def enterDomainsCard : Claim7 := { stood := { row := enterDomainsRow, standIns := [], harness := (true, "d06bd9a2b07fde859d0d860e4fc14392327b39acb29799d92147ababfda4fe06"), looks := true }, kinds := [], alts := [], laidByText := true, laidKinds := [.data, .sentinel, .sentinel, .sentinel, .sentinel, .sentinel, .sentinel, .sentinel, .sentinel, .sentinel], laidTests := true, laidLooks := .later }
def EnterDomainsCardSaid : Prop := Claim7.holds Tryz.pinned (.plain (OpenSpec.ofChange enterDomainsSpec)) enterDomainsCard

/-- THE TIED CARD OF 'scriniumlaw30.EnterLeaves'. -/
def enterLeavesCard : Claim7 := { stood := { row := enterLeavesRow, standIns := [], harness := (true, "d06bd9a2b07fde859d0d860e4fc14392327b39acb29799d92147ababfda4fe06"), looks := true }, kinds := [], alts := [], laidByText := true, laidKinds := [.data, .handle, .sentinel, .sentinel, .sentinel, .sentinel, .sentinel, .sentinel, .sentinel, .sentinel, .sentinel], laidTests := true, laidLooks := .later }
def EnterLeavesCardSaid : Prop := Claim7.holds Tryz.pinned (.plain (OpenSpec.ofChange enterLeavesSpec)) enterLeavesCard

/-- THE SECOND FORM's CARD OF 'scriniumlaw28.TableStays'. -/
def tableStaysUptoCard : Claim7 := { stood := { row := tableStaysUptoRow, standIns := [], harness := (true, "d06bd9a2b07fde859d0d860e4fc14392327b39acb29799d92147ababfda4fe06"), looks := true }, kinds := [], alts := [], laidByText := true, laidKinds := [.data, .sentinel, .sentinel], laidTests := true, laidLooks := .later }
def TableStaysUptoCardSaid : Prop := Claim7.holds Tryz.pinned (.plain (OpenSpec.upto tableStaysSpec)) tableStaysUptoCard

/-- THE SECOND FORM's CARD OF 'scriniumlaw28.TableReaches'. -/
def tableReachesUptoCard : Claim7 := { stood := { row := tableReachesUptoRow, standIns := [], harness := (true, "d06bd9a2b07fde859d0d860e4fc14392327b39acb29799d92147ababfda4fe06"), looks := true }, kinds := [], alts := [], laidByText := true, laidKinds := [.data, .sentinel, .sentinel], laidTests := true, laidLooks := .later }
def TableReachesUptoCardSaid : Prop := Claim7.holds Tryz.pinned (.plain (OpenSpec.upto tableReachesSpec)) tableReachesUptoCard

/-- THE SECOND FORM's CARD OF 'scriniumlaw28.TableNews'. -/
def tableNewsUptoCard : Claim7 := { stood := { row := tableNewsUptoRow, standIns := [], harness := (true, "d06bd9a2b07fde859d0d860e4fc14392327b39acb29799d92147ababfda4fe06"), looks := true }, kinds := [], alts := [], laidByText := true, laidKinds := [.data, .handle, .sentinel, .sentinel, .sentinel, .sentinel, .sentinel, .sentinel, .sentinel, .sentinel, .sentinel], laidTests := true, laidLooks := .later }
def TableNewsUptoCardSaid : Prop := Claim7.holds Tryz.pinned (.plain (OpenSpec.upto tableNewsSpec)) tableNewsUptoCard

/-- THE SECOND FORM's CARD OF 'scriniumlaw30.EnterBack'. -/
def enterBackUptoCard : Claim7 := { stood := { row := enterBackUptoRow, standIns := [], harness := (true, "d06bd9a2b07fde859d0d860e4fc14392327b39acb29799d92147ababfda4fe06"), looks := true }, kinds := [], alts := [], laidByText := true, laidKinds := [.data, .sentinel, .sentinel, .sentinel], laidTests := true, laidLooks := .later }
def EnterBackUptoCardSaid : Prop := Claim7.holds Tryz.pinned (.plain (OpenSpec.upto enterBackSpec)) enterBackUptoCard

/-- THE SECOND FORM's CARD OF 'scriniumlaw30.EnterLegal'. -/
def enterLegalUptoCard : Claim7 := { stood := { row := enterLegalUptoRow, standIns := [], harness := (true, "d06bd9a2b07fde859d0d860e4fc14392327b39acb29799d92147ababfda4fe06"), looks := true }, kinds := [], alts := [], laidByText := true, laidKinds := [.data, .sentinel, .sentinel, .sentinel], laidTests := true, laidLooks := .later }
def EnterLegalUptoCardSaid : Prop := Claim7.holds Tryz.pinned (.plain (OpenSpec.upto enterLegalSpec)) enterLegalUptoCard

/-- THE SECOND FORM's CARD OF 'scriniumlaw30.EnterChecks'. -/
def enterChecksUptoCard : Claim7 := { stood := { row := enterChecksUptoRow, standIns := [], harness := (true, "d06bd9a2b07fde859d0d860e4fc14392327b39acb29799d92147ababfda4fe06"), looks := true }, kinds := [], alts := [], laidByText := true, laidKinds := [.data, .sentinel, .sentinel, .sentinel, .sentinel, .sentinel, .sentinel, .sentinel, .sentinel, .sentinel], laidTests := true, laidLooks := .later }
def EnterChecksUptoCardSaid : Prop := Claim7.holds Tryz.pinned (.plain (OpenSpec.upto enterChecksSpec)) enterChecksUptoCard

/-- THE SECOND FORM's CARD OF 'scriniumlaw30.EnterMoves'. -/
def enterMovesUptoCard : Claim7 := { stood := { row := enterMovesUptoRow, standIns := [], harness := (true, "d06bd9a2b07fde859d0d860e4fc14392327b39acb29799d92147ababfda4fe06"), looks := true }, kinds := [], alts := [], laidByText := true, laidKinds := [.data, .sentinel, .sentinel, .sentinel, .sentinel, .sentinel, .sentinel, .sentinel, .sentinel, .sentinel], laidTests := true, laidLooks := .later }
def EnterMovesUptoCardSaid : Prop := Claim7.holds Tryz.pinned (.plain (OpenSpec.upto enterMovesSpec)) enterMovesUptoCard

/-- THE SECOND FORM's CARD OF 'scriniumlaw30.EnterTargets'. -/
def enterTargetsUptoCard : Claim7 := { stood := { row := enterTargetsUptoRow, standIns := [], harness := (true, "d06bd9a2b07fde859d0d860e4fc14392327b39acb29799d92147ababfda4fe06"), looks := true }, kinds := [], alts := [], laidByText := true, laidKinds := [.data, .sentinel, .sentinel, .sentinel, .sentinel, .sentinel, .sentinel, .sentinel, .sentinel, .sentinel], laidTests := true, laidLooks := .later }
def EnterTargetsUptoCardSaid : Prop := Claim7.holds Tryz.pinned (.plain (OpenSpec.upto enterTargetsSpec)) enterTargetsUptoCard

/-- THE SECOND FORM's CARD OF 'scriniumlaw30.EnterRemembers'. -/
def enterRemembersUptoCard : Claim7 := { stood := { row := enterRemembersUptoRow, standIns := [], harness := (true, "d06bd9a2b07fde859d0d860e4fc14392327b39acb29799d92147ababfda4fe06"), looks := true }, kinds := [], alts := [], laidByText := true, laidKinds := [.data, .sentinel, .sentinel, .sentinel, .sentinel, .sentinel, .sentinel, .sentinel, .sentinel, .sentinel], laidTests := true, laidLooks := .later }
def EnterRemembersUptoCardSaid : Prop := Claim7.holds Tryz.pinned (.plain (OpenSpec.upto enterRemembersSpec)) enterRemembersUptoCard

/-- THE SECOND FORM's CARD OF 'scriniumlaw30.EnterDomains'. -/
def enterDomainsUptoCard : Claim7 := { stood := { row := enterDomainsUptoRow, standIns := [], harness := (true, "d06bd9a2b07fde859d0d860e4fc14392327b39acb29799d92147ababfda4fe06"), looks := true }, kinds := [], alts := [], laidByText := true, laidKinds := [.data, .sentinel, .sentinel, .sentinel, .sentinel, .sentinel, .sentinel, .sentinel, .sentinel, .sentinel], laidTests := true, laidLooks := .later }
def EnterDomainsUptoCardSaid : Prop := Claim7.holds Tryz.pinned (.plain (OpenSpec.upto enterDomainsSpec)) enterDomainsUptoCard

/-- THE SECOND FORM's CARD OF 'scriniumlaw30.EnterLeaves'. -/
def enterLeavesUptoCard : Claim7 := { stood := { row := enterLeavesUptoRow, standIns := [], harness := (true, "d06bd9a2b07fde859d0d860e4fc14392327b39acb29799d92147ababfda4fe06"), looks := true }, kinds := [], alts := [], laidByText := true, laidKinds := [.data, .handle, .sentinel, .sentinel, .sentinel, .sentinel, .sentinel, .sentinel, .sentinel, .sentinel, .sentinel], laidTests := true, laidLooks := .later }
def EnterLeavesUptoCardSaid : Prop := Claim7.holds Tryz.pinned (.plain (OpenSpec.upto enterLeavesSpec)) enterLeavesUptoCard
end Rows
end Go.Proofs.YtlmekdfleciejaaGreatDoor
