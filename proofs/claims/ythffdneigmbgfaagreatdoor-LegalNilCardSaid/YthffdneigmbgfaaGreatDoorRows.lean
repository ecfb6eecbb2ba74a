/-
  NARROWER THAN 'FOR EVERY INPUT', by the rows' own cells (each row's printed sentence says how): TableTrans: laid · TableClosed: laid · TableStays: laid · TableBegins: laid · TableReaches: laid · LegalFirst: laid · LegalCounts: laid · LegalClosed: laid · LegalNumbers: laid · LegalNil: laid · TableNews: laid.
  DERIVED. THE GIVEN ROWS OF THIS SEAT. 11 by the template 'for every input the law returns true; each argument reads behind the call as it read before'; 0 by the template 'total and deterministic' (their statements: YthffdneigmbgfaaGreatDoorTotals.lean).
  GIVEN WITH THE SEED: the statements are not yours to turn. If you find one false, say at which input.
  Laid BY PROGRAM, IN A SANDBOX (cutbox-rows.mjs): the forced cells as the released guide's own fill.sh prints them over the translation f4840b799dc5a5f4… (all of the seat's roots in one cut). By AI agents, Wed Nov 11 2026. No macro, syntax, notation, axiom, sorry.
-/
import Derived.Test.YthffdneigmbgfaaGreatDoorChecked
import GoSem.Claim
import GoSem.ClaimJoined
import GoSem.ClaimMapViews
import Derived.JoinedTies
import Derived.KernelRfl
namespace Go.Proofs.YthffdneigmbgfaaGreatDoor
/- THE CELL 'sum', in the pinned program and in every row, IS THE sha256 OF THE DUMP (.gsa) THAT YthffdneigmbgfaaGreatDoorProg.lean LOADS. Nothing in Lean hashes anything: it is a label: what it is worth is what the hold of that sum in a sandbox is worth. -/
noncomputable def Tryz.pinned : Pinned := { name := "ythffdneigmbgfaagreatdoor", sum := "f4840b799dc5a5f48a95e58851df49be5911580e64da141273a5d23371e41665", checked := Tryz.checked }
namespace Rows
def none {H : Type} : Left H := { results := [], args := [] }

/- WHAT THE LISTED PACKAGE-LEVEL VARIABLES READ AS WHEN THE CALL BEGINS. Each datum BY PROGRAM (the guide's laid-datum.mjs) off the statement by which the dump's own 'gosem.cut.vars' lays the variable. In a bare row this is a premise. The card (YthffdneigmbgfaaGreatDoorCards.lean) ties it to the program's text. -/
def laid_math_bits_deBruijn32tab {H : Type} : DataW H := .agg [.lit (.int .u8 0), .lit (.int .u8 1), .lit (.int .u8 28), .lit (.int .u8 2), .lit (.int .u8 29), .lit (.int .u8 14), .lit (.int .u8 24), .lit (.int .u8 3), .lit (.int .u8 30), .lit (.int .u8 22), .lit (.int .u8 20), .lit (.int .u8 15), .lit (.int .u8 25), .lit (.int .u8 17), .lit (.int .u8 4), .lit (.int .u8 8), .lit (.int .u8 31), .lit (.int .u8 27), .lit (.int .u8 13), .lit (.int .u8 23), .lit (.int .u8 21), .lit (.int .u8 19), .lit (.int .u8 16), .lit (.int .u8 7), .lit (.int .u8 26), .lit (.int .u8 12), .lit (.int .u8 18), .lit (.int .u8 6), .lit (.int .u8 11), .lit (.int .u8 5), .lit (.int .u8 10), .lit (.int .u8 9)]
def laid_scrinium_api_ErrForm {H : Type} : DataW H := .iface "*errors.errorString" (.ptr (.agg [.lit (.string [102, 111, 114, 109])]))
def laid_scrinium_api_ErrLong {H : Type} : DataW H := .iface "*errors.errorString" (.ptr (.agg [.lit (.string [108, 111, 110, 103])]))
def laid_scrinium_api_ErrState {H : Type} : DataW H := .iface "*errors.errorString" (.ptr (.agg [.lit (.string [115, 116, 97, 116, 101])]))
def laid_scrinium_api_ErrRange {H : Type} : DataW H := .iface "*errors.errorString" (.ptr (.agg [.lit (.string [114, 97, 110, 103, 101])]))
def laid_scrinium_api_ErrFull {H : Type} : DataW H := .iface "*errors.errorString" (.ptr (.agg [.lit (.string [102, 117, 108, 108])]))
def laid_scrinium_api_ErrNone {H : Type} : DataW H := .iface "*errors.errorString" (.ptr (.agg [.lit (.string [110, 111, 110, 101])]))
def laid_scrinium_api_ErrCorrupt {H : Type} : DataW H := .iface "*errors.errorString" (.ptr (.agg [.lit (.string [99, 111, 114, 114, 117, 112, 116])]))
def laid_scrinium_api_ErrFuel {H : Type} : DataW H := .iface "*errors.errorString" (.ptr (.agg [.lit (.string [102, 117, 101, 108])]))
def laid_scrinium_api_ErrTwice {H : Type} : DataW H := .iface "*errors.errorString" (.ptr (.agg [.lit (.string [116, 119, 105, 99, 101])]))
def laid_errors_errorType {H : Type} : DataW H := .iface "internal/reflectlite.rtype" (.agg [.ptr (.lit (.string [101, 114, 114, 111, 114]))])

/-- 'scriniumlaw28.TableTrans': WHATEVER THE INPUT: true; the input reads as it did. -/
def tableTransSpec : ChangeSpec := { name := "tableTrans", fn := fun _ => fun
  | [d1, d2, d3] => { results := [.lit (.bool true)], args := [d1, d2, d3] }
  | _ => none }
def tableTransRow : OpenClaim := { program := "ythffdneigmbgfaagreatdoor", sum := "f4840b799dc5a5f48a95e58851df49be5911580e64da141273a5d23371e41665", func := "scrinium/scriniumlaw28.TableTrans", spec := "tableTrans", unfollowed := true, recurses := true, named := ["scrinium/api.ErrLong", "scrinium/api.ErrForm", "math/bits.deBruijn32tab"], plainKeys := false, apart := false, laid := [("math/bits.deBruijn32tab", laid_math_bits_deBruijn32tab), ("scrinium/api.ErrForm", laid_scrinium_api_ErrForm), ("scrinium/api.ErrLong", laid_scrinium_api_ErrLong)] }
def TableTransSaid : Prop := tableTransRow.holds Tryz.pinned (OpenSpec.ofChange tableTransSpec)

/-- ITS FALSE NEIGHBOUR: 'it returns false'. Refute it at one input. -/
def tableTransWrong : ChangeSpec := { name := "tableTrans", fn := fun _ => fun
  | [d1, d2, d3] => { results := [.lit (.bool false)], args := [d1, d2, d3] }
  | _ => none }
def TableTransWrongFalsely : Prop := tableTransRow.holds Tryz.pinned (OpenSpec.ofChange tableTransWrong)

/-- 'scriniumlaw28.TableClosed': WHATEVER THE INPUT: true; the input reads as it did. -/
def tableClosedSpec : ChangeSpec := { name := "tableClosed", fn := fun _ => fun
  | [d1, d2] => { results := [.lit (.bool true)], args := [d1, d2] }
  | _ => none }
def tableClosedRow : OpenClaim := { program := "ythffdneigmbgfaagreatdoor", sum := "f4840b799dc5a5f48a95e58851df49be5911580e64da141273a5d23371e41665", func := "scrinium/scriniumlaw28.TableClosed", spec := "tableClosed", unfollowed := true, recurses := true, named := ["scrinium/api.ErrLong", "scrinium/api.ErrForm", "math/bits.deBruijn32tab"], plainKeys := false, apart := false, laid := [("math/bits.deBruijn32tab", laid_math_bits_deBruijn32tab), ("scrinium/api.ErrForm", laid_scrinium_api_ErrForm), ("scrinium/api.ErrLong", laid_scrinium_api_ErrLong)] }
def TableClosedSaid : Prop := tableClosedRow.holds Tryz.pinned (OpenSpec.ofChange tableClosedSpec)

/-- ITS FALSE NEIGHBOUR: 'it returns false'. Refute it at one input. -/
def tableClosedWrong : ChangeSpec := { name := "tableClosed", fn := fun _ => fun
  | [d1, d2] => { results := [.lit (.bool false)], args := [d1, d2] }
  | _ => none }
def TableClosedWrongFalsely : Prop := tableClosedRow.holds Tryz.pinned (OpenSpec.ofChange tableClosedWrong)

/-- 'scriniumlaw28.TableStays': WHATEVER THE INPUT: true; the input reads as it did. -/
def tableStaysSpec : ChangeSpec := { name := "tableStays", fn := fun _ => fun
  | [d1, d2] => { results := [.lit (.bool true)], args := [d1, d2] }
  | _ => none }
def tableStaysRow : OpenClaim := { program := "ythffdneigmbgfaagreatdoor", sum := "f4840b799dc5a5f48a95e58851df49be5911580e64da141273a5d23371e41665", func := "scrinium/scriniumlaw28.TableStays", spec := "tableStays", unfollowed := true, recurses := true, named := ["scrinium/api.ErrLong", "scrinium/api.ErrForm", "math/bits.deBruijn32tab"], plainKeys := false, apart := false, laid := [("math/bits.deBruijn32tab", laid_math_bits_deBruijn32tab), ("scrinium/api.ErrForm", laid_scrinium_api_ErrForm), ("scrinium/api.ErrLong", laid_scrinium_api_ErrLong)] }
def TableStaysSaid : Prop := tableStaysRow.holds Tryz.pinned (OpenSpec.ofChange tableStaysSpec)

/-- ITS FALSE NEIGHBOUR: 'it returns false'. Refute it at one input. -/
def tableStaysWrong : ChangeSpec := { name := "tableStays", fn := fun _ => fun
  | [d1, d2] => { results := [.lit (.bool false)], args := [d1, d2] }
  | _ => none }
def TableStaysWrongFalsely : Prop := tableStaysRow.holds Tryz.pinned (OpenSpec.ofChange tableStaysWrong)

/-- 'scriniumlaw28.TableBegins': WHATEVER THE INPUT: true; the input reads as it did. -/
def tableBeginsSpec : ChangeSpec := { name := "tableBegins", fn := fun _ => fun
  | [d1, d2] => { results := [.lit (.bool true)], args := [d1, d2] }
  | _ => none }
def tableBeginsRow : OpenClaim := { program := "ythffdneigmbgfaagreatdoor", sum := "f4840b799dc5a5f48a95e58851df49be5911580e64da141273a5d23371e41665", func := "scrinium/scriniumlaw28.TableBegins", spec := "tableBegins", unfollowed := true, recurses := true, named := ["scrinium/api.ErrLong", "scrinium/api.ErrForm", "math/bits.deBruijn32tab"], plainKeys := false, apart := false, laid := [("math/bits.deBruijn32tab", laid_math_bits_deBruijn32tab), ("scrinium/api.ErrForm", laid_scrinium_api_ErrForm), ("scrinium/api.ErrLong", laid_scrinium_api_ErrLong)] }
def TableBeginsSaid : Prop := tableBeginsRow.holds Tryz.pinned (OpenSpec.ofChange tableBeginsSpec)

/-- ITS FALSE NEIGHBOUR: 'it returns false'. Refute it at one input. -/
def tableBeginsWrong : ChangeSpec := { name := "tableBegins", fn := fun _ => fun
  | [d1, d2] => { results := [.lit (.bool false)], args := [d1, d2] }
  | _ => none }
def TableBeginsWrongFalsely : Prop := tableBeginsRow.holds Tryz.pinned (OpenSpec.ofChange tableBeginsWrong)

/-- 'scriniumlaw28.TableReaches': WHATEVER THE INPUT: true; the input reads as it did. -/
def tableReachesSpec : ChangeSpec := { name := "tableReaches", fn := fun _ => fun
  | [d] => { results := [.lit (.bool true)], args := [d] }
  | _ => none }
def tableReachesRow : OpenClaim := { program := "ythffdneigmbgfaagreatdoor", sum := "f4840b799dc5a5f48a95e58851df49be5911580e64da141273a5d23371e41665", func := "scrinium/scriniumlaw28.TableReaches", spec := "tableReaches", unfollowed := true, recurses := true, named := ["scrinium/api.ErrLong", "scrinium/api.ErrForm", "math/bits.deBruijn32tab"], plainKeys := false, apart := false, laid := [("math/bits.deBruijn32tab", laid_math_bits_deBruijn32tab), ("scrinium/api.ErrForm", laid_scrinium_api_ErrForm), ("scrinium/api.ErrLong", laid_scrinium_api_ErrLong)] }
def TableReachesSaid : Prop := tableReachesRow.holds Tryz.pinned (OpenSpec.ofChange tableReachesSpec)

/-- ITS FALSE NEIGHBOUR: 'it returns false'. Refute it at one input. -/
def tableReachesWrong : ChangeSpec := { name := "tableReaches", fn := fun _ => fun
  | [d] => { results := [.lit (.bool false)], args := [d] }
  | _ => none }
def TableReachesWrongFalsely : Prop := tableReachesRow.holds Tryz.pinned (OpenSpec.ofChange tableReachesWrong)

/-- 'scriniumlaw29.LegalFirst': WHATEVER THE INPUT: true; the input reads as it did. -/
def legalFirstSpec : ChangeSpec := { name := "legalFirst", fn := fun _ => fun
  | [d] => { results := [.lit (.bool true)], args := [d] }
  | _ => none }
def legalFirstRow : OpenClaim := { program := "ythffdneigmbgfaagreatdoor", sum := "f4840b799dc5a5f48a95e58851df49be5911580e64da141273a5d23371e41665", func := "scrinium/scriniumlaw29.LegalFirst", spec := "legalFirst", unfollowed := true, recurses := true, named := ["scrinium/api.ErrLong", "scrinium/api.ErrForm", "math/bits.deBruijn32tab", "scrinium/api.ErrState"], plainKeys := false, apart := false, laid := [("math/bits.deBruijn32tab", laid_math_bits_deBruijn32tab), ("scrinium/api.ErrForm", laid_scrinium_api_ErrForm), ("scrinium/api.ErrState", laid_scrinium_api_ErrState), ("scrinium/api.ErrLong", laid_scrinium_api_ErrLong)] }
def LegalFirstSaid : Prop := legalFirstRow.holds Tryz.pinned (OpenSpec.ofChange legalFirstSpec)

/-- ITS FALSE NEIGHBOUR: 'it returns false'. Refute it at one input. -/
def legalFirstWrong : ChangeSpec := { name := "legalFirst", fn := fun _ => fun
  | [d] => { results := [.lit (.bool false)], args := [d] }
  | _ => none }
def LegalFirstWrongFalsely : Prop := legalFirstRow.holds Tryz.pinned (OpenSpec.ofChange legalFirstWrong)

/-- 'scriniumlaw29.LegalCounts': WHATEVER THE INPUT: true; the input reads as it did. -/
def legalCountsSpec : ChangeSpec := { name := "legalCounts", fn := fun _ => fun
  | [d1, d2] => { results := [.lit (.bool true)], args := [d1, d2] }
  | _ => none }
def legalCountsRow : OpenClaim := { program := "ythffdneigmbgfaagreatdoor", sum := "f4840b799dc5a5f48a95e58851df49be5911580e64da141273a5d23371e41665", func := "scrinium/scriniumlaw29.LegalCounts", spec := "legalCounts", inPlace := ["internal/reflectlite.TypeOf"], unfollowed := true, recurses := true, named := ["scrinium/api.ErrLong", "scrinium/api.ErrForm", "math/bits.deBruijn32tab", "scrinium/api.ErrState", "scrinium/api.ErrRange", "scrinium/api.ErrFull", "scrinium/api.ErrNone", "scrinium/api.ErrCorrupt", "scrinium/api.ErrFuel", "scrinium/api.ErrTwice"], plainKeys := false, apart := false, laid := [("math/bits.deBruijn32tab", laid_math_bits_deBruijn32tab), ("scrinium/api.ErrForm", laid_scrinium_api_ErrForm), ("scrinium/api.ErrRange", laid_scrinium_api_ErrRange), ("scrinium/api.ErrFull", laid_scrinium_api_ErrFull), ("scrinium/api.ErrNone", laid_scrinium_api_ErrNone), ("scrinium/api.ErrCorrupt", laid_scrinium_api_ErrCorrupt), ("scrinium/api.ErrFuel", laid_scrinium_api_ErrFuel), ("scrinium/api.ErrState", laid_scrinium_api_ErrState), ("scrinium/api.ErrLong", laid_scrinium_api_ErrLong), ("scrinium/api.ErrTwice", laid_scrinium_api_ErrTwice)] }
def LegalCountsSaid : Prop := legalCountsRow.holds Tryz.pinned (OpenSpec.ofChange legalCountsSpec)

/-- ITS FALSE NEIGHBOUR: 'it returns false'. Refute it at one input. -/
def legalCountsWrong : ChangeSpec := { name := "legalCounts", fn := fun _ => fun
  | [d1, d2] => { results := [.lit (.bool false)], args := [d1, d2] }
  | _ => none }
def LegalCountsWrongFalsely : Prop := legalCountsRow.holds Tryz.pinned (OpenSpec.ofChange legalCountsWrong)

/-- 'scriniumlaw29.LegalClosed': WHATEVER THE INPUT: true; the input reads as it did. -/
def legalClosedSpec : ChangeSpec := { name := "legalClosed", fn := fun _ => fun
  | [d1, d2, d3] => { results := [.lit (.bool true)], args := [d1, d2, d3] }
  | _ => none }
def legalClosedRow : OpenClaim := { program := "ythffdneigmbgfaagreatdoor", sum := "f4840b799dc5a5f48a95e58851df49be5911580e64da141273a5d23371e41665", func := "scrinium/scriniumlaw29.LegalClosed", spec := "legalClosed", inPlace := ["internal/reflectlite.TypeOf"], unfollowed := true, recurses := true, named := ["scrinium/api.ErrLong", "scrinium/api.ErrForm", "math/bits.deBruijn32tab", "scrinium/api.ErrState", "scrinium/api.ErrRange", "scrinium/api.ErrFull", "scrinium/api.ErrNone", "scrinium/api.ErrCorrupt", "scrinium/api.ErrFuel", "scrinium/api.ErrTwice"], plainKeys := false, apart := false, laid := [("math/bits.deBruijn32tab", laid_math_bits_deBruijn32tab), ("scrinium/api.ErrForm", laid_scrinium_api_ErrForm), ("scrinium/api.ErrRange", laid_scrinium_api_ErrRange), ("scrinium/api.ErrFull", laid_scrinium_api_ErrFull), ("scrinium/api.ErrNone", laid_scrinium_api_ErrNone), ("scrinium/api.ErrCorrupt", laid_scrinium_api_ErrCorrupt), ("scrinium/api.ErrFuel", laid_scrinium_api_ErrFuel), ("scrinium/api.ErrState", laid_scrinium_api_ErrState), ("scrinium/api.ErrLong", laid_scrinium_api_ErrLong), ("scrinium/api.ErrTwice", laid_scrinium_api_ErrTwice)] }
def LegalClosedSaid : Prop := legalClosedRow.holds Tryz.pinned (OpenSpec.ofChange legalClosedSpec)

/-- ITS FALSE NEIGHBOUR: 'it returns false'. Refute it at one input. -/
def legalClosedWrong : ChangeSpec := { name := "legalClosed", fn := fun _ => fun
  | [d1, d2, d3] => { results := [.lit (.bool false)], args := [d1, d2, d3] }
  | _ => none }
def LegalClosedWrongFalsely : Prop := legalClosedRow.holds Tryz.pinned (OpenSpec.ofChange legalClosedWrong)

/-- 'scriniumlaw29.LegalNumbers': WHATEVER THE INPUT: true; the input reads as it did. -/
def legalNumbersSpec : ChangeSpec := { name := "legalNumbers", fn := fun _ => fun
  | [d1, d2, d3] => { results := [.lit (.bool true)], args := [d1, d2, d3] }
  | _ => none }
def legalNumbersRow : OpenClaim := { program := "ythffdneigmbgfaagreatdoor", sum := "f4840b799dc5a5f48a95e58851df49be5911580e64da141273a5d23371e41665", func := "scrinium/scriniumlaw29.LegalNumbers", spec := "legalNumbers", inPlace := ["internal/reflectlite.TypeOf"], unfollowed := true, recurses := true, named := ["scrinium/api.ErrLong", "scrinium/api.ErrForm", "math/bits.deBruijn32tab", "scrinium/api.ErrState", "scrinium/api.ErrRange", "scrinium/api.ErrFull", "scrinium/api.ErrNone", "scrinium/api.ErrCorrupt", "scrinium/api.ErrFuel", "scrinium/api.ErrTwice"], plainKeys := false, apart := false, laid := [("math/bits.deBruijn32tab", laid_math_bits_deBruijn32tab), ("scrinium/api.ErrForm", laid_scrinium_api_ErrForm), ("scrinium/api.ErrRange", laid_scrinium_api_ErrRange), ("scrinium/api.ErrFull", laid_scrinium_api_ErrFull), ("scrinium/api.ErrNone", laid_scrinium_api_ErrNone), ("scrinium/api.ErrCorrupt", laid_scrinium_api_ErrCorrupt), ("scrinium/api.ErrFuel", laid_scrinium_api_ErrFuel), ("scrinium/api.ErrState", laid_scrinium_api_ErrState), ("scrinium/api.ErrLong", laid_scrinium_api_ErrLong), ("scrinium/api.ErrTwice", laid_scrinium_api_ErrTwice)] }
def LegalNumbersSaid : Prop := legalNumbersRow.holds Tryz.pinned (OpenSpec.ofChange legalNumbersSpec)

/-- ITS FALSE NEIGHBOUR: 'it returns false'. Refute it at one input. -/
def legalNumbersWrong : ChangeSpec := { name := "legalNumbers", fn := fun _ => fun
  | [d1, d2, d3] => { results := [.lit (.bool false)], args := [d1, d2, d3] }
  | _ => none }
def LegalNumbersWrongFalsely : Prop := legalNumbersRow.holds Tryz.pinned (OpenSpec.ofChange legalNumbersWrong)

/-- 'scriniumlaw29.LegalNil': WHATEVER THE INPUT: true; the input reads as it did. -/
def legalNilSpec : ChangeSpec := { name := "legalNil", fn := fun _ => fun
  | [d1, d2, d3] => { results := [.lit (.bool true)], args := [d1, d2, d3] }
  | _ => none }
def legalNilRow : OpenClaim := { program := "ythffdneigmbgfaagreatdoor", sum := "f4840b799dc5a5f48a95e58851df49be5911580e64da141273a5d23371e41665", func := "scrinium/scriniumlaw29.LegalNil", spec := "legalNil", inPlace := ["internal/reflectlite.TypeOf"], unfollowed := true, recurses := true, named := ["scrinium/api.ErrState", "scrinium/api.ErrForm", "scrinium/api.ErrRange", "scrinium/api.ErrFull", "scrinium/api.ErrNone", "scrinium/api.ErrCorrupt", "scrinium/api.ErrFuel", "scrinium/api.ErrLong", "scrinium/api.ErrTwice", "math/bits.deBruijn32tab"], plainKeys := false, apart := false, laid := [("math/bits.deBruijn32tab", laid_math_bits_deBruijn32tab), ("scrinium/api.ErrForm", laid_scrinium_api_ErrForm), ("scrinium/api.ErrRange", laid_scrinium_api_ErrRange), ("scrinium/api.ErrFull", laid_scrinium_api_ErrFull), ("scrinium/api.ErrNone", laid_scrinium_api_ErrNone), ("scrinium/api.ErrCorrupt", laid_scrinium_api_ErrCorrupt), ("scrinium/api.ErrFuel", laid_scrinium_api_ErrFuel), ("scrinium/api.ErrState", laid_scrinium_api_ErrState), ("scrinium/api.ErrLong", laid_scrinium_api_ErrLong), ("scrinium/api.ErrTwice", laid_scrinium_api_ErrTwice)] }
def LegalNilSaid : Prop := legalNilRow.holds Tryz.pinned (OpenSpec.ofChange legalNilSpec)

/-- ITS FALSE NEIGHBOUR: 'it returns false'. Refute it at one input. -/
def legalNilWrong : ChangeSpec := { name := "legalNil", fn := fun _ => fun
  | [d1, d2, d3] => { results := [.lit (.bool false)], args := [d1, d2, d3] }
  | _ => none }
def LegalNilWrongFalsely : Prop := legalNilRow.holds Tryz.pinned (OpenSpec.ofChange legalNilWrong)

/-- 'scriniumlaw28.TableNews': WHATEVER THE INPUT: true; the input reads as it did. -/
def tableNewsSpec : ChangeSpec := { name := "tableNews", fn := fun _ => fun
  | [d1, d2] => { results := [.lit (.bool true)], args := [d1, d2] }
  | _ => none }
def tableNewsRow : OpenClaim := { program := "ythffdneigmbgfaagreatdoor", sum := "f4840b799dc5a5f48a95e58851df49be5911580e64da141273a5d23371e41665", func := "scrinium/scriniumlaw28.TableNews", spec := "tableNews", inPlace := ["internal/reflectlite.TypeOf", "internal/reflectlite.ValueOf", "(internal/reflectlite.Value).Type", "(internal/reflectlite.Value).IsNil", "(internal/reflectlite.Value).Elem", "(internal/reflectlite.Value).Set"], unfollowed := true, recurses := true, named := ["scrinium/api.ErrLong", "scrinium/api.ErrForm", "math/bits.deBruijn32tab", "scrinium/api.ErrRange", "scrinium/api.ErrFull", "scrinium/api.ErrNone", "scrinium/api.ErrCorrupt", "scrinium/api.ErrFuel", "scrinium/api.ErrState", "scrinium/api.ErrTwice", "errors.errorType"], plainKeys := false, apart := false, laid := [("math/bits.deBruijn32tab", laid_math_bits_deBruijn32tab), ("errors.errorType", laid_errors_errorType), ("scrinium/api.ErrForm", laid_scrinium_api_ErrForm), ("scrinium/api.ErrRange", laid_scrinium_api_ErrRange), ("scrinium/api.ErrFull", laid_scrinium_api_ErrFull), ("scrinium/api.ErrNone", laid_scrinium_api_ErrNone), ("scrinium/api.ErrCorrupt", laid_scrinium_api_ErrCorrupt), ("scrinium/api.ErrFuel", laid_scrinium_api_ErrFuel), ("scrinium/api.ErrState", laid_scrinium_api_ErrState), ("scrinium/api.ErrLong", laid_scrinium_api_ErrLong), ("scrinium/api.ErrTwice", laid_scrinium_api_ErrTwice)] }
def TableNewsSaid : Prop := tableNewsRow.holds Tryz.pinned (OpenSpec.ofChange tableNewsSpec)

/-- ITS FALSE NEIGHBOUR: 'it returns false'. Refute it at one input. -/
def tableNewsWrong : ChangeSpec := { name := "tableNews", fn := fun _ => fun
  | [d1, d2] => { results := [.lit (.bool false)], args := [d1, d2] }
  | _ => none }
def TableNewsWrongFalsely : Prop := tableNewsRow.holds Tryz.pinned (OpenSpec.ofChange tableNewsWrong)

/- THE SECOND FORM. 'bulk': how many values and letters a reading holds, each counted each time it is reached (what is shared counts as often as it is met; a slice's spare places count too). A statement '..UptoSaid' is the law's where the arguments, and the package variables that the reading takes, are together of bulk at most 1048576: NARROWER than '..Said'. Prove '..Said' where nothing that the law and all that it calls make is longer than what came in: it says more and counts as full. Else prove '..UptoSaid'. A law counts once. -/
mutual
def uptoBulk {H : Type} : DataW H → Nat
  | .lit (.string bytes) => bytes.length + 1
  | .lit _ => 1
  | .nil => 1
  | .ptr d => uptoBulk d + 1
  | .slice elems spare => uptoBulkAll elems + uptoBulkAll spare + 1
  | .agg parts => uptoBulkAll parts + 1
  | .iface _ d => uptoBulk d + 1
  | .map entries => uptoBulkEntries entries + 1
  | .held _ => 1
def uptoBulkAll {H : Type} : List (DataW H) → Nat
  | [] => 0
  | d :: r => uptoBulk d + uptoBulkAll r
def uptoBulkEntries {H : Type} : List (Lit × DataW H) → Nat
  | [] => 0
  | x :: r => uptoBulkEntry x + uptoBulkEntries r
def uptoBulkEntry {H : Type} : Lit × DataW H → Nat
  | (.string bytes, d) => bytes.length + uptoBulk d + 1
  | (_, d) => uptoBulk d + 1
 end
def uptoSmall : (H : Type) → List (DataW H) → Bool := fun _ ds => decide (uptoBulkAll ds ≤ 1048576)
def OpenSpec.upto (s : _root_.Go.ChangeSpec) : _root_.Go.OpenSpec := { _root_.Go.OpenSpec.ofChange s with cond := some uptoSmall }

/-- 'scriniumlaw28.TableTrans', WHERE WHAT IT READS IS OF BULK AT MOST 1048576: true; the input reads as it did. -/
def tableTransUptoRow : OpenClaim := { program := "ythffdneigmbgfaagreatdoor", sum := "f4840b799dc5a5f48a95e58851df49be5911580e64da141273a5d23371e41665", func := "scrinium/scriniumlaw28.TableTrans", spec := "tableTrans", unfollowed := true, recurses := true, named := ["scrinium/api.ErrLong", "scrinium/api.ErrForm", "math/bits.deBruijn32tab"], plainKeys := false, apart := false, laid := [("math/bits.deBruijn32tab", laid_math_bits_deBruijn32tab), ("scrinium/api.ErrForm", laid_scrinium_api_ErrForm), ("scrinium/api.ErrLong", laid_scrinium_api_ErrLong)], narrowed := true }
def TableTransUptoSaid : Prop := tableTransUptoRow.holds Tryz.pinned (OpenSpec.upto tableTransSpec)

/-- 'scriniumlaw28.TableClosed', WHERE WHAT IT READS IS OF BULK AT MOST 1048576: true; the input reads as it did. -/
def tableClosedUptoRow : OpenClaim := { program := "ythffdneigmbgfaagreatdoor", sum := "f4840b799dc5a5f48a95e58851df49be5911580e64da141273a5d23371e41665", func := "scrinium/scriniumlaw28.TableClosed", spec := "tableClosed", unfollowed := true, recurses := true, named := ["scrinium/api.ErrLong", "scrinium/api.ErrForm", "math/bits.deBruijn32tab"], plainKeys := false, apart := false, laid := [("math/bits.deBruijn32tab", laid_math_bits_deBruijn32tab), ("scrinium/api.ErrForm", laid_scrinium_api_ErrForm), ("scrinium/api.ErrLong", laid_scrinium_api_ErrLong)], narrowed := true }
def TableClosedUptoSaid : Prop := tableClosedUptoRow.holds Tryz.pinned (OpenSpec.upto tableClosedSpec)

/-- 'scriniumlaw28.TableStays', WHERE WHAT IT READS IS OF BULK AT MOST 1048576: true; the input reads as it did. -/
def tableStaysUptoRow : OpenClaim := { program := "ythffdneigmbgfaagreatdoor", sum := "f4840b799dc5a5f48a95e58851df49be5911580e64da141273a5d23371e41665", func := "scrinium/scriniumlaw28.TableStays", spec := "tableStays", unfollowed := true, recurses := true, named := ["scrinium/api.ErrLong", "scrinium/api.ErrForm", "math/bits.deBruijn32tab"], plainKeys := false, apart := false, laid := [("math/bits.deBruijn32tab", laid_math_bits_deBruijn32tab), ("scrinium/api.ErrForm", laid_scrinium_api_ErrForm), ("scrinium/api.ErrLong", laid_scrinium_api_ErrLong)], narrowed := true }
def TableStaysUptoSaid : Prop := tableStaysUptoRow.holds Tryz.pinned (OpenSpec.upto tableStaysSpec)

/-- 'scriniumlaw28.TableBegins', WHERE WHAT IT READS IS OF BULK AT MOST 1048576: true; the input reads as it did. -/
def tableBeginsUptoRow : OpenClaim := { program := "ythffdneigmbgfaagreatdoor", sum := "f4840b799dc5a5f48a95e58851df49be5911580e64da141273a5d23371e41665", func := "scrinium/scriniumlaw28.TableBegins", spec := "tableBegins", unfollowed := true, recurses := true, named := ["scrinium/api.ErrLong", "scrinium/api.ErrForm", "math/bits.deBruijn32tab"], plainKeys := false, apart := false, laid := [("math/bits.deBruijn32tab", laid_math_bits_deBruijn32tab), ("scrinium/api.ErrForm", laid_scrinium_api_ErrForm), ("scrinium/api.ErrLong", laid_scrinium_api_ErrLong)], narrowed := true }
def TableBeginsUptoSaid : Prop := tableBeginsUptoRow.holds Tryz.pinned (OpenSpec.upto tableBeginsSpec)

/-- 'scriniumlaw28.TableReaches', WHERE WHAT IT READS IS OF BULK AT MOST 1048576: true; the input reads as it did. -/
def tableReachesUptoRow : OpenClaim := { program := "ythffdneigmbgfaagreatdoor", sum := "f4840b799dc5a5f48a95e58851df49be5911580e64da141273a5d23371e41665", func := "scrinium/scriniumlaw28.TableReaches", spec := "tableReaches", unfollowed := true, recurses := true, named := ["scrinium/api.ErrLong", "scrinium/api.ErrForm", "math/bits.deBruijn32tab"], plainKeys := false, apart := false, laid := [("math/bits.deBruijn32tab", laid_math_bits_deBruijn32tab), ("scrinium/api.ErrForm", laid_scrinium_api_ErrForm), ("scrinium/api.ErrLong", laid_scrinium_api_ErrLong)], narrowed := true }
def TableReachesUptoSaid : Prop := tableReachesUptoRow.holds Tryz.pinned (OpenSpec.upto tableReachesSpec)

/-- 'scriniumlaw29.LegalFirst', WHERE WHAT IT READS IS OF BULK AT MOST 1048576: true; the input reads as it did. -/
def legalFirstUptoRow : OpenClaim := { program := "ythffdneigmbgfaagreatdoor", sum := "f4840b799dc5a5f48a95e58851df49be5911580e64da141273a5d23371e41665", func := "scrinium/scriniumlaw29.LegalFirst", spec := "legalFirst", unfollowed := true, recurses := true, named := ["scrinium/api.ErrLong", "scrinium/api.ErrForm", "math/bits.deBruijn32tab", "scrinium/api.ErrState"], plainKeys := false, apart := false, laid := [("math/bits.deBruijn32tab", laid_math_bits_deBruijn32tab), ("scrinium/api.ErrForm", laid_scrinium_api_ErrForm), ("scrinium/api.ErrState", laid_scrinium_api_ErrState), ("scrinium/api.ErrLong", laid_scrinium_api_ErrLong)], narrowed := true }
def LegalFirstUptoSaid : Prop := legalFirstUptoRow.holds Tryz.pinned (OpenSpec.upto legalFirstSpec)

/-- 'scriniumlaw29.LegalCounts', WHERE WHAT IT READS IS OF BULK AT MOST 1048576: true; the input reads as it did. -/
def legalCountsUptoRow : OpenClaim := { program := "ythffdneigmbgfaagreatdoor", sum := "f4840b799dc5a5f48a95e58851df49be5911580e64da141273a5d23371e41665", func := "scrinium/scriniumlaw29.LegalCounts", spec := "legalCounts", inPlace := ["internal/reflectlite.TypeOf"], unfollowed := true, recurses := true, named := ["scrinium/api.ErrLong", "scrinium/api.ErrForm", "math/bits.deBruijn32tab", "scrinium/api.ErrState", "scrinium/api.ErrRange", "scrinium/api.ErrFull", "scrinium/api.ErrNone", "scrinium/api.ErrCorrupt", "scrinium/api.ErrFuel", "scrinium/api.ErrTwice"], plainKeys := false, apart := false, laid := [("math/bits.deBruijn32tab", laid_math_bits_deBruijn32tab), ("scrinium/api.ErrForm", laid_scrinium_api_ErrForm), ("scrinium/api.ErrRange", laid_scrinium_api_ErrRange), ("scrinium/api.ErrFull", laid_scrinium_api_ErrFull), ("scrinium/api.ErrNone", laid_scrinium_api_ErrNone), ("scrinium/api.ErrCorrupt", laid_scrinium_api_ErrCorrupt), ("scrinium/api.ErrFuel", laid_scrinium_api_ErrFuel), ("scrinium/api.ErrState", laid_scrinium_api_ErrState), ("scrinium/api.ErrLong", laid_scrinium_api_ErrLong), ("scrinium/api.ErrTwice", laid_scrinium_api_ErrTwice)], narrowed := true }
def LegalCountsUptoSaid : Prop := legalCountsUptoRow.holds Tryz.pinned (OpenSpec.upto legalCountsSpec)

/-- 'scriniumlaw29.LegalClosed', WHERE WHAT IT READS IS OF BULK AT MOST 1048576: true; the input reads as it did. -/
def legalClosedUptoRow : OpenClaim := { program := "ythffdneigmbgfaagreatdoor", sum := "f4840b799dc5a5f48a95e58851df49be5911580e64da141273a5d23371e41665", func := "scrinium/scriniumlaw29.LegalClosed", spec := "legalClosed", inPlace := ["internal/reflectlite.TypeOf"], unfollowed := true, recurses := true, named := ["scrinium/api.ErrLong", "scrinium/api.ErrForm", "math/bits.deBruijn32tab", "scrinium/api.ErrState", "scrinium/api.ErrRange", "scrinium/api.ErrFull", "scrinium/api.ErrNone", "scrinium/api.ErrCorrupt", "scrinium/api.ErrFuel", "scrinium/api.ErrTwice"], plainKeys := false, apart := false, laid := [("math/bits.deBruijn32tab", laid_math_bits_deBruijn32tab), ("scrinium/api.ErrForm", laid_scrinium_api_ErrForm), ("scrinium/api.ErrRange", laid_scrinium_api_ErrRange), ("scrinium/api.ErrFull", laid_scrinium_api_ErrFull), ("scrinium/api.ErrNone", laid_scrinium_api_ErrNone), ("scrinium/api.ErrCorrupt", laid_scrinium_api_ErrCorrupt), ("scrinium/api.ErrFuel", laid_scrinium_api_ErrFuel), ("scrinium/api.ErrState", laid_scrinium_api_ErrState), ("scrinium/api.ErrLong", laid_scrinium_api_ErrLong), ("scrinium/api.ErrTwice", laid_scrinium_api_ErrTwice)], narrowed := true }
def LegalClosedUptoSaid : Prop := legalClosedUptoRow.holds Tryz.pinned (OpenSpec.upto legalClosedSpec)

/-- 'scriniumlaw29.LegalNumbers', WHERE WHAT IT READS IS OF BULK AT MOST 1048576: true; the input reads as it did. -/
def legalNumbersUptoRow : OpenClaim := { program := "ythffdneigmbgfaagreatdoor", sum := "f4840b799dc5a5f48a95e58851df49be5911580e64da141273a5d23371e41665", func := "scrinium/scriniumlaw29.LegalNumbers", spec := "legalNumbers", inPlace := ["internal/reflectlite.TypeOf"], unfollowed := true, recurses := true, named := ["scrinium/api.ErrLong", "scrinium/api.ErrForm", "math/bits.deBruijn32tab", "scrinium/api.ErrState", "scrinium/api.ErrRange", "scrinium/api.ErrFull", "scrinium/api.ErrNone", "scrinium/api.ErrCorrupt", "scrinium/api.ErrFuel", "scrinium/api.ErrTwice"], plainKeys := false, apart := false, laid := [("math/bits.deBruijn32tab", laid_math_bits_deBruijn32tab), ("scrinium/api.ErrForm", laid_scrinium_api_ErrForm), ("scrinium/api.ErrRange", laid_scrinium_api_ErrRange), ("scrinium/api.ErrFull", laid_scrinium_api_ErrFull), ("scrinium/api.ErrNone", laid_scrinium_api_ErrNone), ("scrinium/api.ErrCorrupt", laid_scrinium_api_ErrCorrupt), ("scrinium/api.ErrFuel", laid_scrinium_api_ErrFuel), ("scrinium/api.ErrState", laid_scrinium_api_ErrState), ("scrinium/api.ErrLong", laid_scrinium_api_ErrLong), ("scrinium/api.ErrTwice", laid_scrinium_api_ErrTwice)], narrowed := true }
def LegalNumbersUptoSaid : Prop := legalNumbersUptoRow.holds Tryz.pinned (OpenSpec.upto legalNumbersSpec)

/-- 'scriniumlaw29.LegalNil', WHERE WHAT IT READS IS OF BULK AT MOST 1048576: true; the input reads as it did. -/
def legalNilUptoRow : OpenClaim := { program := "ythffdneigmbgfaagreatdoor", sum := "f4840b799dc5a5f48a95e58851df49be5911580e64da141273a5d23371e41665", func := "scrinium/scriniumlaw29.LegalNil", spec := "legalNil", inPlace := ["internal/reflectlite.TypeOf"], unfollowed := true, recurses := true, named := ["scrinium/api.ErrState", "scrinium/api.ErrForm", "scrinium/api.ErrRange", "scrinium/api.ErrFull", "scrinium/api.ErrNone", "scrinium/api.ErrCorrupt", "scrinium/api.ErrFuel", "scrinium/api.ErrLong", "scrinium/api.ErrTwice", "math/bits.deBruijn32tab"], plainKeys := false, apart := false, laid := [("math/bits.deBruijn32tab", laid_math_bits_deBruijn32tab), ("scrinium/api.ErrForm", laid_scrinium_api_ErrForm), ("scrinium/api.ErrRange", laid_scrinium_api_ErrRange), ("scrinium/api.ErrFull", laid_scrinium_api_ErrFull), ("scrinium/api.ErrNone", laid_scrinium_api_ErrNone), ("scrinium/api.ErrCorrupt", laid_scrinium_api_ErrCorrupt), ("scrinium/api.ErrFuel", laid_scrinium_api_ErrFuel), ("scrinium/api.ErrState", laid_scrinium_api_ErrState), ("scrinium/api.ErrLong", laid_scrinium_api_ErrLong), ("scrinium/api.ErrTwice", laid_scrinium_api_ErrTwice)], narrowed := true }
def LegalNilUptoSaid : Prop := legalNilUptoRow.holds Tryz.pinned (OpenSpec.upto legalNilSpec)

/-- 'scriniumlaw28.TableNews', WHERE WHAT IT READS IS OF BULK AT MOST 1048576: true; the input reads as it did. -/
def tableNewsUptoRow : OpenClaim := { program := "ythffdneigmbgfaagreatdoor", sum := "f4840b799dc5a5f48a95e58851df49be5911580e64da141273a5d23371e41665", func := "scrinium/scriniumlaw28.TableNews", spec := "tableNews", inPlace := ["internal/reflectlite.TypeOf", "internal/reflectlite.ValueOf", "(internal/reflectlite.Value).Type", "(internal/reflectlite.Value).IsNil", "(internal/reflectlite.Value).Elem", "(internal/reflectlite.Value).Set"], unfollowed := true, recurses := true, named := ["scrinium/api.ErrLong", "scrinium/api.ErrForm", "math/bits.deBruijn32tab", "scrinium/api.ErrRange", "scrinium/api.ErrFull", "scrinium/api.ErrNone", "scrinium/api.ErrCorrupt", "scrinium/api.ErrFuel", "scrinium/api.ErrState", "scrinium/api.ErrTwice", "errors.errorType"], plainKeys := false, apart := false, laid := [("math/bits.deBruijn32tab", laid_math_bits_deBruijn32tab), ("errors.errorType", laid_errors_errorType), ("scrinium/api.ErrForm", laid_scrinium_api_ErrForm), ("scrinium/api.ErrRange", laid_scrinium_api_ErrRange), ("scrinium/api.ErrFull", laid_scrinium_api_ErrFull), ("scrinium/api.ErrNone", laid_scrinium_api_ErrNone), ("scrinium/api.ErrCorrupt", laid_scrinium_api_ErrCorrupt), ("scrinium/api.ErrFuel", laid_scrinium_api_ErrFuel), ("scrinium/api.ErrState", laid_scrinium_api_ErrState), ("scrinium/api.ErrLong", laid_scrinium_api_ErrLong), ("scrinium/api.ErrTwice", laid_scrinium_api_ErrTwice)], narrowed := true }
def TableNewsUptoSaid : Prop := tableNewsUptoRow.holds Tryz.pinned (OpenSpec.upto tableNewsSpec)

end Rows
end Go.Proofs.YthffdneigmbgfaaGreatDoor
