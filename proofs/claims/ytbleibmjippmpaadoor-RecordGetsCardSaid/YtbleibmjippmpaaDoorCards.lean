/-
  DERIVED. GIVEN WITH THE SEED: THE CARDS: each row of YtbleibmjippmpaaDoorRows.lean that lists a variable, with what it lists TIED to the program's text (the seventh form; the later family's looks); each row that meets fmt, with fmt's text TOLD by the authors' own Lean function (tested against real Go, not proved from fmt's source: count such statements apart). THE CARD IS WHAT COUNTS. Prove the row's statement (the work); the ties are given (YtbleibmjippmpaaDoorTie.lean); close each card by the builder's one call (the guide's Derived/Test/ToyasCard.lean, 'card_holds'). Laid BY PROGRAM, IN A SANDBOX (cutbox-door.mjs). By AI agents, Wed Nov 11 2026. No macro, syntax, notation, axiom, sorry.
-/
import Derived.Test.YtbleibmjippmpaaDoorRows
import GoSem.ClaimSeven
namespace Go.Proofs.YtbleibmjippmpaaDoor
namespace Rows

/-- THE TIED CARD OF 'scriniumlaw35.IndexMetas'. -/
def indexMetasCard : Claim7 := { stood := { row := indexMetasRow, standIns := [], harness := (true, "2c4604937cb2281bcf93505e8ad6d3404383d1086af2acd0e39dbe37a9a25f0d"), looks := true }, kinds := [], alts := [], laidByText := true, laidKinds := [.sentinel, .sentinel, .sentinel, .sentinel, .sentinel, .sentinel, .sentinel, .sentinel, .sentinel], laidTests := true, laidLooks := .later }
def IndexMetasCardSaid : Prop := Claim7.holds Tryd.pinned (.plain (OpenSpec.ofChange indexMetasSpec)) indexMetasCard

/-- THE TIED CARD OF 'scriniumlaw33.TimerOrders'. -/
def timerOrdersCard : Claim7 := { stood := { row := timerOrdersRow, standIns := [], harness := (true, "2c4604937cb2281bcf93505e8ad6d3404383d1086af2acd0e39dbe37a9a25f0d"), looks := true }, kinds := [], alts := [], laidByText := true, laidKinds := [.sentinel, .sentinel, .sentinel, .sentinel, .sentinel, .sentinel, .sentinel, .sentinel, .sentinel], laidTests := true, laidLooks := .later }
def TimerOrdersCardSaid : Prop := Claim7.holds Tryd.pinned (.plain (OpenSpec.ofChange timerOrdersSpec)) timerOrdersCard

/-- THE TIED CARD OF 'scriniumlaw34.RecordBack'. -/
def recordBackCard : Claim7 := { stood := { row := recordBackRow, standIns := [], harness := (true, "2c4604937cb2281bcf93505e8ad6d3404383d1086af2acd0e39dbe37a9a25f0d"), looks := true }, kinds := [], alts := [], laidByText := true, laidKinds := [.data, .sentinel, .sentinel, .sentinel], laidTests := true, laidLooks := .later }
def RecordBackCardSaid : Prop := Claim7.holds Tryd.pinned (.plain (OpenSpec.ofChange recordBackSpec)) recordBackCard

/-- THE TIED CARD OF 'scriniumlaw34.RecordSames'. -/
def recordSamesCard : Claim7 := { stood := { row := recordSamesRow, standIns := [], harness := (true, "2c4604937cb2281bcf93505e8ad6d3404383d1086af2acd0e39dbe37a9a25f0d"), looks := true }, kinds := [], alts := [], laidByText := true, laidKinds := [.data, .sentinel, .sentinel, .sentinel], laidTests := true, laidLooks := .later }
def RecordSamesCardSaid : Prop := Claim7.holds Tryd.pinned (.plain (OpenSpec.ofChange recordSamesSpec)) recordSamesCard

/-- THE TIED CARD OF 'scriniumlaw34.RecordGets'. -/
def recordGetsCard : Claim7 := { stood := { row := recordGetsRow, standIns := [], harness := (true, "2c4604937cb2281bcf93505e8ad6d3404383d1086af2acd0e39dbe37a9a25f0d"), looks := true }, kinds := [], alts := [], laidByText := true, laidKinds := [.data, .sentinel, .sentinel, .sentinel, .sentinel, .sentinel, .sentinel, .sentinel, .sentinel, .sentinel], laidTests := true, laidLooks := .later }
def RecordGetsCardSaid : Prop := Claim7.holds Tryd.pinned (.plain (OpenSpec.ofChange recordGetsSpec)) recordGetsCard

/-- THE TIED CARD OF 'scriniumlaw34.RecordPuts'. -/
def recordPutsCard : Claim7 := { stood := { row := recordPutsRow, standIns := [], harness := (true, "2c4604937cb2281bcf93505e8ad6d3404383d1086af2acd0e39dbe37a9a25f0d"), looks := true }, kinds := [], alts := [], laidByText := true, laidKinds := [.data, .sentinel, .sentinel, .sentinel, .sentinel, .sentinel, .sentinel, .sentinel, .sentinel, .sentinel], laidTests := true, laidLooks := .later }
def RecordPutsCardSaid : Prop := Claim7.holds Tryd.pinned (.plain (OpenSpec.ofChange recordPutsSpec)) recordPutsCard

/-- THE TIED CARD OF 'scriniumlaw33.TimerMixes'. -/
def timerMixesCard : Claim7 := { stood := { row := timerMixesRow, standIns := [], harness := (true, "2c4604937cb2281bcf93505e8ad6d3404383d1086af2acd0e39dbe37a9a25f0d"), looks := true }, kinds := [], alts := [], laidByText := true, laidKinds := [.sentinel, .sentinel, .sentinel], laidTests := true, laidLooks := .later }
def TimerMixesCardSaid : Prop := Claim7.holds Tryd.pinned (.plain (OpenSpec.ofChange timerMixesSpec)) timerMixesCard

/-- THE TIED CARD OF 'scriniumlaw33.TimerFull'. -/
def timerFullCard : Claim7 := { stood := { row := timerFullRow, standIns := [], harness := (true, "2c4604937cb2281bcf93505e8ad6d3404383d1086af2acd0e39dbe37a9a25f0d"), looks := true }, kinds := [], alts := [], laidByText := true, laidKinds := [.sentinel, .sentinel, .sentinel, .sentinel, .sentinel, .sentinel, .sentinel, .sentinel, .sentinel], laidTests := true, laidLooks := .later }
def TimerFullCardSaid : Prop := Claim7.holds Tryd.pinned (.plain (OpenSpec.ofChange timerFullSpec)) timerFullCard

/-- THE TIED CARD OF 'scriniumlaw35.IndexTimers'. -/
def indexTimersCard : Claim7 := { stood := { row := indexTimersRow, standIns := [], harness := (true, "2c4604937cb2281bcf93505e8ad6d3404383d1086af2acd0e39dbe37a9a25f0d"), looks := true }, kinds := [], alts := [], laidByText := true, laidKinds := [.sentinel, .sentinel, .sentinel, .sentinel, .sentinel, .sentinel, .sentinel, .sentinel, .sentinel], laidTests := true, laidLooks := .later }
def IndexTimersCardSaid : Prop := Claim7.holds Tryd.pinned (.plain (OpenSpec.ofChange indexTimersSpec)) indexTimersCard

/-- THE TIED CARD OF 'scriniumlaw33.TimerTakes'. -/
def timerTakesCard : Claim7 := { stood := { row := timerTakesRow, standIns := [], harness := (true, "2c4604937cb2281bcf93505e8ad6d3404383d1086af2acd0e39dbe37a9a25f0d"), looks := true }, kinds := [], alts := [], laidByText := true, laidKinds := [.sentinel, .sentinel, .sentinel, .sentinel, .sentinel, .sentinel, .sentinel, .sentinel, .sentinel], laidTests := true, laidLooks := .later }
def TimerTakesCardSaid : Prop := Claim7.holds Tryd.pinned (.plain (OpenSpec.ofChange timerTakesSpec)) timerTakesCard

/-- THE TIED CARD OF 'scriniumlaw33.TimerPlays'. -/
def timerPlaysCard : Claim7 := { stood := { row := timerPlaysRow, standIns := [], harness := (true, "2c4604937cb2281bcf93505e8ad6d3404383d1086af2acd0e39dbe37a9a25f0d"), looks := true }, kinds := [], alts := [], laidByText := true, laidKinds := [.sentinel, .sentinel, .sentinel, .sentinel, .sentinel, .sentinel, .sentinel, .sentinel, .sentinel], laidTests := true, laidLooks := .later }
def TimerPlaysCardSaid : Prop := Claim7.holds Tryd.pinned (.plain (OpenSpec.ofChange timerPlaysSpec)) timerPlaysCard

/-- THE TIED CARD OF 'scriniumlaw33.TimerNil'. -/
def timerNilCard : Claim7 := { stood := { row := timerNilRow, standIns := [], harness := (true, "2c4604937cb2281bcf93505e8ad6d3404383d1086af2acd0e39dbe37a9a25f0d"), looks := true }, kinds := [], alts := [], laidByText := true, laidKinds := [.sentinel, .sentinel, .sentinel, .sentinel, .sentinel, .sentinel, .sentinel, .sentinel, .sentinel], laidTests := true, laidLooks := .later }
def TimerNilCardSaid : Prop := Claim7.holds Tryd.pinned (.plain (OpenSpec.ofChange timerNilSpec)) timerNilCard

/-- THE SECOND FORM's CARD OF 'scriniumlaw35.IndexMetas'. -/
def indexMetasUptoCard : Claim7 := { stood := { row := indexMetasUptoRow, standIns := [], harness := (true, "2c4604937cb2281bcf93505e8ad6d3404383d1086af2acd0e39dbe37a9a25f0d"), looks := true }, kinds := [], alts := [], laidByText := true, laidKinds := [.sentinel, .sentinel, .sentinel, .sentinel, .sentinel, .sentinel, .sentinel, .sentinel, .sentinel], laidTests := true, laidLooks := .later }
def IndexMetasUptoCardSaid : Prop := Claim7.holds Tryd.pinned (.plain (OpenSpec.upto indexMetasSpec)) indexMetasUptoCard

/-- THE SECOND FORM's CARD OF 'scriniumlaw33.TimerOrders'. -/
def timerOrdersUptoCard : Claim7 := { stood := { row := timerOrdersUptoRow, standIns := [], harness := (true, "2c4604937cb2281bcf93505e8ad6d3404383d1086af2acd0e39dbe37a9a25f0d"), looks := true }, kinds := [], alts := [], laidByText := true, laidKinds := [.sentinel, .sentinel, .sentinel, .sentinel, .sentinel, .sentinel, .sentinel, .sentinel, .sentinel], laidTests := true, laidLooks := .later }
def TimerOrdersUptoCardSaid : Prop := Claim7.holds Tryd.pinned (.plain (OpenSpec.upto timerOrdersSpec)) timerOrdersUptoCard

/-- THE SECOND FORM's CARD OF 'scriniumlaw34.RecordBack'. -/
def recordBackUptoCard : Claim7 := { stood := { row := recordBackUptoRow, standIns := [], harness := (true, "2c4604937cb2281bcf93505e8ad6d3404383d1086af2acd0e39dbe37a9a25f0d"), looks := true }, kinds := [], alts := [], laidByText := true, laidKinds := [.data, .sentinel, .sentinel, .sentinel], laidTests := true, laidLooks := .later }
def RecordBackUptoCardSaid : Prop := Claim7.holds Tryd.pinned (.plain (OpenSpec.upto recordBackSpec)) recordBackUptoCard

/-- THE SECOND FORM's CARD OF 'scriniumlaw34.RecordSames'. -/
def recordSamesUptoCard : Claim7 := { stood := { row := recordSamesUptoRow, standIns := [], harness := (true, "2c4604937cb2281bcf93505e8ad6d3404383d1086af2acd0e39dbe37a9a25f0d"), looks := true }, kinds := [], alts := [], laidByText := true, laidKinds := [.data, .sentinel, .sentinel, .sentinel], laidTests := true, laidLooks := .later }
def RecordSamesUptoCardSaid : Prop := Claim7.holds Tryd.pinned (.plain (OpenSpec.upto recordSamesSpec)) recordSamesUptoCard

/-- THE SECOND FORM's CARD OF 'scriniumlaw34.RecordGets'. -/
def recordGetsUptoCard : Claim7 := { stood := { row := recordGetsUptoRow, standIns := [], harness := (true, "2c4604937cb2281bcf93505e8ad6d3404383d1086af2acd0e39dbe37a9a25f0d"), looks := true }, kinds := [], alts := [], laidByText := true, laidKinds := [.data, .sentinel, .sentinel, .sentinel, .sentinel, .sentinel, .sentinel, .sentinel, .sentinel, .sentinel], laidTests := true, laidLooks := .later }
def RecordGetsUptoCardSaid : Prop := Claim7.holds Tryd.pinned (.plain (OpenSpec.upto recordGetsSpec)) recordGetsUptoCard

/-- THE SECOND FORM's CARD OF 'scriniumlaw34.RecordPuts'. -/
def recordPutsUptoCard : Claim7 := { stood := { row := recordPutsUptoRow, standIns := [], harness := (true, "2c4604937cb2281bcf93505e8ad6d3404383d1086af2acd0e39dbe37a9a25f0d"), looks := true }, kinds := [], alts := [], laidByText := true, laidKinds := [.data, .sentinel, .sentinel, .sentinel, .sentinel, .sentinel, .sentinel, .sentinel, .sentinel, .sentinel], laidTests := true, laidLooks := .later }
def RecordPutsUptoCardSaid : Prop := Claim7.holds Tryd.pinned (.plain (OpenSpec.upto recordPutsSpec)) recordPutsUptoCard

/-- THE SECOND FORM's CARD OF 'scriniumlaw33.TimerMixes'. -/
def timerMixesUptoCard : Claim7 := { stood := { row := timerMixesUptoRow, standIns := [], harness := (true, "2c4604937cb2281bcf93505e8ad6d3404383d1086af2acd0e39dbe37a9a25f0d"), looks := true }, kinds := [], alts := [], laidByText := true, laidKinds := [.sentinel, .sentinel, .sentinel], laidTests := true, laidLooks := .later }
def TimerMixesUptoCardSaid : Prop := Claim7.holds Tryd.pinned (.plain (OpenSpec.upto timerMixesSpec)) timerMixesUptoCard

/-- THE SECOND FORM's CARD OF 'scriniumlaw33.TimerFull'. -/
def timerFullUptoCard : Claim7 := { stood := { row := timerFullUptoRow, standIns := [], harness := (true, "2c4604937cb2281bcf93505e8ad6d3404383d1086af2acd0e39dbe37a9a25f0d"), looks := true }, kinds := [], alts := [], laidByText := true, laidKinds := [.sentinel, .sentinel, .sentinel, .sentinel, .sentinel, .sentinel, .sentinel, .sentinel, .sentinel], laidTests := true, laidLooks := .later }
def TimerFullUptoCardSaid : Prop := Claim7.holds Tryd.pinned (.plain (OpenSpec.upto timerFullSpec)) timerFullUptoCard

/-- THE SECOND FORM's CARD OF 'scriniumlaw35.IndexTimers'. -/
def indexTimersUptoCard : Claim7 := { stood := { row := indexTimersUptoRow, standIns := [], harness := (true, "2c4604937cb2281bcf93505e8ad6d3404383d1086af2acd0e39dbe37a9a25f0d"), looks := true }, kinds := [], alts := [], laidByText := true, laidKinds := [.sentinel, .sentinel, .sentinel, .sentinel, .sentinel, .sentinel, .sentinel, .sentinel, .sentinel], laidTests := true, laidLooks := .later }
def IndexTimersUptoCardSaid : Prop := Claim7.holds Tryd.pinned (.plain (OpenSpec.upto indexTimersSpec)) indexTimersUptoCard

/-- THE SECOND FORM's CARD OF 'scriniumlaw33.TimerTakes'. -/
def timerTakesUptoCard : Claim7 := { stood := { row := timerTakesUptoRow, standIns := [], harness := (true, "2c4604937cb2281bcf93505e8ad6d3404383d1086af2acd0e39dbe37a9a25f0d"), looks := true }, kinds := [], alts := [], laidByText := true, laidKinds := [.sentinel, .sentinel, .sentinel, .sentinel, .sentinel, .sentinel, .sentinel, .sentinel, .sentinel], laidTests := true, laidLooks := .later }
def TimerTakesUptoCardSaid : Prop := Claim7.holds Tryd.pinned (.plain (OpenSpec.upto timerTakesSpec)) timerTakesUptoCard

/-- THE SECOND FORM's CARD OF 'scriniumlaw33.TimerPlays'. -/
def timerPlaysUptoCard : Claim7 := { stood := { row := timerPlaysUptoRow, standIns := [], harness := (true, "2c4604937cb2281bcf93505e8ad6d3404383d1086af2acd0e39dbe37a9a25f0d"), looks := true }, kinds := [], alts := [], laidByText := true, laidKinds := [.sentinel, .sentinel, .sentinel, .sentinel, .sentinel, .sentinel, .sentinel, .sentinel, .sentinel], laidTests := true, laidLooks := .later }
def TimerPlaysUptoCardSaid : Prop := Claim7.holds Tryd.pinned (.plain (OpenSpec.upto timerPlaysSpec)) timerPlaysUptoCard

/-- THE SECOND FORM's CARD OF 'scriniumlaw33.TimerNil'. -/
def timerNilUptoCard : Claim7 := { stood := { row := timerNilUptoRow, standIns := [], harness := (true, "2c4604937cb2281bcf93505e8ad6d3404383d1086af2acd0e39dbe37a9a25f0d"), looks := true }, kinds := [], alts := [], laidByText := true, laidKinds := [.sentinel, .sentinel, .sentinel, .sentinel, .sentinel, .sentinel, .sentinel, .sentinel, .sentinel], laidTests := true, laidLooks := .later }
def TimerNilUptoCardSaid : Prop := Claim7.holds Tryd.pinned (.plain (OpenSpec.upto timerNilSpec)) timerNilUptoCard
end Rows
end Go.Proofs.YtbleibmjippmpaaDoor
