/-
  DERIVED. GIVEN WITH THE SEED: THE CARDS: each row of YthepkabfiooabaaDoorRows.lean that lists a variable, with what it lists TIED to the program's text (the seventh form; the later family's looks); each row that meets fmt, with fmt's text TOLD by the authors' own Lean function (tested against real Go, not proved from fmt's source: count such statements apart). THE CARD IS WHAT COUNTS. Prove the row's statement (the work); the ties are given (YthepkabfiooabaaDoorTie.lean); close each card by the builder's one call (the guide's Derived/Test/ToyasCard.lean, 'card_holds'). Laid BY PROGRAM, IN A SANDBOX (cutbox-door.mjs). By AI agents, Wed Nov 11 2026. No macro, syntax, notation, axiom, sorry.
-/
import Derived.Test.YthepkabfiooabaaDoorRows
import GoSem.ClaimSeven
namespace Go.Proofs.YthepkabfiooabaaDoor
namespace Rows

/-- THE TIED CARD OF 'scriniumlaw33.TimerMixes'. -/
def timerMixesCard : Claim7 := { stood := { row := timerMixesRow, standIns := [], harness := (true, "b766f52cc8d8ba193e47ba793684398c562a7f6634b2006a12de27e8c77defdb"), looks := true }, kinds := [], alts := [], laidByText := true, laidKinds := [.sentinel, .sentinel, .sentinel], laidTests := true, laidLooks := .later }
def TimerMixesCardSaid : Prop := Claim7.holds Tryd.pinned (.plain (OpenSpec.ofChange timerMixesSpec)) timerMixesCard

/-- THE TIED CARD OF 'scriniumlaw33.TimerFull'. -/
def timerFullCard : Claim7 := { stood := { row := timerFullRow, standIns := [], harness := (true, "b766f52cc8d8ba193e47ba793684398c562a7f6634b2006a12de27e8c77defdb"), looks := true }, kinds := [], alts := [], laidByText := true, laidKinds := [.sentinel, .sentinel, .sentinel, .sentinel, .sentinel, .sentinel, .sentinel, .sentinel, .sentinel], laidTests := true, laidLooks := .later }
def TimerFullCardSaid : Prop := Claim7.holds Tryd.pinned (.plain (OpenSpec.ofChange timerFullSpec)) timerFullCard

/-- THE TIED CARD OF 'scriniumlaw33.TimerTakes'. -/
def timerTakesCard : Claim7 := { stood := { row := timerTakesRow, standIns := [], harness := (true, "b766f52cc8d8ba193e47ba793684398c562a7f6634b2006a12de27e8c77defdb"), looks := true }, kinds := [], alts := [], laidByText := true, laidKinds := [.sentinel, .sentinel, .sentinel, .sentinel, .sentinel, .sentinel, .sentinel, .sentinel, .sentinel], laidTests := true, laidLooks := .later }
def TimerTakesCardSaid : Prop := Claim7.holds Tryd.pinned (.plain (OpenSpec.ofChange timerTakesSpec)) timerTakesCard

/-- THE TIED CARD OF 'scriniumlaw33.TimerPlays'. -/
def timerPlaysCard : Claim7 := { stood := { row := timerPlaysRow, standIns := [], harness := (true, "b766f52cc8d8ba193e47ba793684398c562a7f6634b2006a12de27e8c77defdb"), looks := true }, kinds := [], alts := [], laidByText := true, laidKinds := [.sentinel, .sentinel, .sentinel, .sentinel, .sentinel, .sentinel, .sentinel, .sentinel, .sentinel], laidTests := true, laidLooks := .later }
def TimerPlaysCardSaid : Prop := Claim7.holds Tryd.pinned (.plain (OpenSpec.ofChange timerPlaysSpec)) timerPlaysCard

/-- THE TIED CARD OF 'scriniumlaw33.TimerNil'. -/
def timerNilCard : Claim7 := { stood := { row := timerNilRow, standIns := [], harness := (true, "b766f52cc8d8ba193e47ba793684398c562a7f6634b2006a12de27e8c77defdb"), looks := true }, kinds := [], alts := [], laidByText := true, laidKinds := [.sentinel, .sentinel, .sentinel, .sentinel, .sentinel, .sentinel, .sentinel, .sentinel, .sentinel], laidTests := true, laidLooks := .later }
def TimerNilCardSaid : Prop := Claim7.holds Tryd.pinned (.plain (OpenSpec.ofChange timerNilSpec)) timerNilCard

/-- THE SECOND FORM's CARD OF 'scriniumlaw33.TimerMixes'. -/
def timerMixesUptoCard : Claim7 := { stood := { row := timerMixesUptoRow, standIns := [], harness := (true, "b766f52cc8d8ba193e47ba793684398c562a7f6634b2006a12de27e8c77defdb"), looks := true }, kinds := [], alts := [], laidByText := true, laidKinds := [.sentinel, .sentinel, .sentinel], laidTests := true, laidLooks := .later }
def TimerMixesUptoCardSaid : Prop := Claim7.holds Tryd.pinned (.plain (OpenSpec.upto timerMixesSpec)) timerMixesUptoCard

/-- THE SECOND FORM's CARD OF 'scriniumlaw33.TimerFull'. -/
def timerFullUptoCard : Claim7 := { stood := { row := timerFullUptoRow, standIns := [], harness := (true, "b766f52cc8d8ba193e47ba793684398c562a7f6634b2006a12de27e8c77defdb"), looks := true }, kinds := [], alts := [], laidByText := true, laidKinds := [.sentinel, .sentinel, .sentinel, .sentinel, .sentinel, .sentinel, .sentinel, .sentinel, .sentinel], laidTests := true, laidLooks := .later }
def TimerFullUptoCardSaid : Prop := Claim7.holds Tryd.pinned (.plain (OpenSpec.upto timerFullSpec)) timerFullUptoCard

/-- THE SECOND FORM's CARD OF 'scriniumlaw33.TimerTakes'. -/
def timerTakesUptoCard : Claim7 := { stood := { row := timerTakesUptoRow, standIns := [], harness := (true, "b766f52cc8d8ba193e47ba793684398c562a7f6634b2006a12de27e8c77defdb"), looks := true }, kinds := [], alts := [], laidByText := true, laidKinds := [.sentinel, .sentinel, .sentinel, .sentinel, .sentinel, .sentinel, .sentinel, .sentinel, .sentinel], laidTests := true, laidLooks := .later }
def TimerTakesUptoCardSaid : Prop := Claim7.holds Tryd.pinned (.plain (OpenSpec.upto timerTakesSpec)) timerTakesUptoCard

/-- THE SECOND FORM's CARD OF 'scriniumlaw33.TimerPlays'. -/
def timerPlaysUptoCard : Claim7 := { stood := { row := timerPlaysUptoRow, standIns := [], harness := (true, "b766f52cc8d8ba193e47ba793684398c562a7f6634b2006a12de27e8c77defdb"), looks := true }, kinds := [], alts := [], laidByText := true, laidKinds := [.sentinel, .sentinel, .sentinel, .sentinel, .sentinel, .sentinel, .sentinel, .sentinel, .sentinel], laidTests := true, laidLooks := .later }
def TimerPlaysUptoCardSaid : Prop := Claim7.holds Tryd.pinned (.plain (OpenSpec.upto timerPlaysSpec)) timerPlaysUptoCard

/-- THE SECOND FORM's CARD OF 'scriniumlaw33.TimerNil'. -/
def timerNilUptoCard : Claim7 := { stood := { row := timerNilUptoRow, standIns := [], harness := (true, "b766f52cc8d8ba193e47ba793684398c562a7f6634b2006a12de27e8c77defdb"), looks := true }, kinds := [], alts := [], laidByText := true, laidKinds := [.sentinel, .sentinel, .sentinel, .sentinel, .sentinel, .sentinel, .sentinel, .sentinel, .sentinel], laidTests := true, laidLooks := .later }
def TimerNilUptoCardSaid : Prop := Claim7.holds Tryd.pinned (.plain (OpenSpec.upto timerNilSpec)) timerNilUptoCard
end Rows
end Go.Proofs.YthepkabfiooabaaDoor
