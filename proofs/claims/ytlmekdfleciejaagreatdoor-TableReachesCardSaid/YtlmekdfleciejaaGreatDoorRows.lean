/-
  NARROWER THAN 'FOR EVERY INPUT', by the rows' own cells (each row's printed sentence says how): TableStays: laid · TableReaches: laid · TableNews: laid · EnterBack: laid · EnterLegal: laid · EnterChecks: laid · EnterMoves: laid · EnterTargets: laid · EnterRemembers: laid · EnterDomains: laid · EnterLeaves: laid.
  DERIVED. THE GIVEN ROWS OF THIS SEAT. 11 by the template 'for every input the law returns true; each argument reads behind the call as it read before'; 0 by the template 'total and deterministic' (their statements: YtlmekdfleciejaaGreatDoorTotals.lean).
  GIVEN WITH THE SEED: the statements are not yours to turn. If you find one false, say at which input.
  Laid BY PROGRAM, IN A SANDBOX (cutbox-rows.mjs): the forced cells as the released guide's own fill.sh prints them over the translation 7ac1fc69a5339b46… (all of the seat's roots in one cut). By AI agents, Wed Nov 11 2026. No macro, syntax, notation, axiom, sorry.
-/
import Derived.Test.YtlmekdfleciejaaGreatDoorChecked
import GoSem.Claim
import GoSem.ClaimJoined
import GoSem.ClaimMapViews
import Derived.JoinedTies
import Derived.KernelRfl
namespace Go.Proofs.YtlmekdfleciejaaGreatDoor
/- THE CELL 'sum', in the pinned program and in every row, IS THE sha256 OF THE DUMP (.gsa) THAT YtlmekdfleciejaaGreatDoorProg.lean LOADS. Nothing in Lean hashes anything: it is a label: what it is worth is what the hold of that sum in a sandbox is worth. -/
noncomputable def Tryz.pinned : Pinned := { name := "ytlmekdfleciejaagreatdoor", sum := "7ac1fc69a5339b4660413caf1cf273e4b9f888972c1f8b19e5975078fab62b6e", checked := Tryz.checked }
namespace Rows
def none {H : Type} : Left H := { results := [], args := [] }

/- WHAT THE LISTED PACKAGE-LEVEL VARIABLES READ AS WHEN THE CALL BEGINS. Each datum BY PROGRAM (the guide's laid-datum.mjs) off the statement by which the dump's own 'gosem.cut.vars' lays the variable. In a bare row this is a premise. The card (YtlmekdfleciejaaGreatDoorCards.lean) ties it to the program's text. -/
def laid_math_bits_deBruijn32tab {H : Type} : DataW H := .agg [.lit (.int .u8 0), .lit (.int .u8 1), .lit (.int .u8 28), .lit (.int .u8 2), .lit (.int .u8 29), .lit (.int .u8 14), .lit (.int .u8 24), .lit (.int .u8 3), .lit (.int .u8 30), .lit (.int .u8 22), .lit (.int .u8 20), .lit (.int .u8 15), .lit (.int .u8 25), .lit (.int .u8 17), .lit (.int .u8 4), .lit (.int .u8 8), .lit (.int .u8 31), .lit (.int .u8 27), .lit (.int .u8 13), .lit (.int .u8 23), .lit (.int .u8 21), .lit (.int .u8 19), .lit (.int .u8 16), .lit (.int .u8 7), .lit (.int .u8 26), .lit (.int .u8 12), .lit (.int .u8 18), .lit (.int .u8 6), .lit (.int .u8 11), .lit (.int .u8 5), .lit (.int .u8 10), .lit (.int .u8 9)]
def laid_scrinium_api_ErrForm {H : Type} : DataW H := .iface "*errors.errorString" (.ptr (.agg [.lit (.string [102, 111, 114, 109])]))
def laid_scrinium_api_ErrLong {H : Type} : DataW H := .iface "*errors.errorString" (.ptr (.agg [.lit (.string [108, 111, 110, 103])]))
def laid_errors_errorType {H : Type} : DataW H := .iface "internal/reflectlite.rtype" (.agg [.ptr (.lit (.string [101, 114, 114, 111, 114]))])
def laid_scrinium_api_ErrRange {H : Type} : DataW H := .iface "*errors.errorString" (.ptr (.agg [.lit (.string [114, 97, 110, 103, 101])]))
def laid_scrinium_api_ErrFull {H : Type} : DataW H := .iface "*errors.errorString" (.ptr (.agg [.lit (.string [102, 117, 108, 108])]))
def laid_scrinium_api_ErrNone {H : Type} : DataW H := .iface "*errors.errorString" (.ptr (.agg [.lit (.string [110, 111, 110, 101])]))
def laid_scrinium_api_ErrCorrupt {H : Type} : DataW H := .iface "*errors.errorString" (.ptr (.agg [.lit (.string [99, 111, 114, 114, 117, 112, 116])]))
def laid_scrinium_api_ErrFuel {H : Type} : DataW H := .iface "*errors.errorString" (.ptr (.agg [.lit (.string [102, 117, 101, 108])]))
def laid_scrinium_api_ErrState {H : Type} : DataW H := .iface "*errors.errorString" (.ptr (.agg [.lit (.string [115, 116, 97, 116, 101])]))
def laid_scrinium_api_ErrTwice {H : Type} : DataW H := .iface "*errors.errorString" (.ptr (.agg [.lit (.string [116, 119, 105, 99, 101])]))

/-- 'scriniumlaw28.TableStays': WHATEVER THE INPUT: true; the input reads as it did. -/
def tableStaysSpec : ChangeSpec := { name := "tableStays", fn := fun _ => fun
  | [d1, d2] => { results := [.lit (.bool true)], args := [d1, d2] }
  | _ => none }
def tableStaysRow : OpenClaim := { program := "ytlmekdfleciejaagreatdoor", sum := "7ac1fc69a5339b4660413caf1cf273e4b9f888972c1f8b19e5975078fab62b6e", func := "scrinium/scriniumlaw28.TableStays", spec := "tableStays", unfollowed := true, recurses := true, named := ["scrinium/api.ErrLong", "scrinium/api.ErrForm", "math/bits.deBruijn32tab"], plainKeys := false, apart := false, laid := [("math/bits.deBruijn32tab", laid_math_bits_deBruijn32tab), ("scrinium/api.ErrForm", laid_scrinium_api_ErrForm), ("scrinium/api.ErrLong", laid_scrinium_api_ErrLong)] }
def TableStaysSaid : Prop := tableStaysRow.holds Tryz.pinned (OpenSpec.ofChange tableStaysSpec)

/-- ITS FALSE NEIGHBOUR: 'it returns false'. Refute it at one input. -/
def tableStaysWrong : ChangeSpec := { name := "tableStays", fn := fun _ => fun
  | [d1, d2] => { results := [.lit (.bool false)], args := [d1, d2] }
  | _ => none }
def TableStaysWrongFalsely : Prop := tableStaysRow.holds Tryz.pinned (OpenSpec.ofChange tableStaysWrong)

/-- 'scriniumlaw28.TableReaches': WHATEVER THE INPUT: true; the input reads as it did. -/
def tableReachesSpec : ChangeSpec := { name := "tableReaches", fn := fun _ => fun
  | [d] => { results := [.lit (.bool true)], args := [d] }
  | _ => none }
def tableReachesRow : OpenClaim := { program := "ytlmekdfleciejaagreatdoor", sum := "7ac1fc69a5339b4660413caf1cf273e4b9f888972c1f8b19e5975078fab62b6e", func := "scrinium/scriniumlaw28.TableReaches", spec := "tableReaches", unfollowed := true, recurses := true, named := ["scrinium/api.ErrLong", "scrinium/api.ErrForm", "math/bits.deBruijn32tab"], plainKeys := false, apart := false, laid := [("math/bits.deBruijn32tab", laid_math_bits_deBruijn32tab), ("scrinium/api.ErrForm", laid_scrinium_api_ErrForm), ("scrinium/api.ErrLong", laid_scrinium_api_ErrLong)] }
def TableReachesSaid : Prop := tableReachesRow.holds Tryz.pinned (OpenSpec.ofChange tableReachesSpec)

/-- ITS FALSE NEIGHBOUR: 'it returns false'. Refute it at one input. -/
def tableReachesWrong : ChangeSpec := { name := "tableReaches", fn := fun _ => fun
  | [d] => { results := [.lit (.bool false)], args := [d] }
  | _ => none }
def TableReachesWrongFalsely : Prop := tableReachesRow.holds Tryz.pinned (OpenSpec.ofChange tableReachesWrong)

/-- 'scriniumlaw28.TableNews': WHATEVER THE INPUT: true; the input reads as it did. -/
def tableNewsSpec : ChangeSpec := { name := "tableNews", fn := fun _ => fun
  | [d1, d2] => { results := [.lit (.bool true)], args := [d1, d2] }
  | _ => none }
def tableNewsRow : OpenClaim := { program := "ytlmekdfleciejaagreatdoor", sum := "7ac1fc69a5339b4660413caf1cf273e4b9f888972c1f8b19e5975078fab62b6e", func := "scrinium/scriniumlaw28.TableNews", spec := "tableNews", inPlace := ["internal/reflectlite.TypeOf", "internal/reflectlite.ValueOf", "(internal/reflectlite.Value).Type", "(internal/reflectlite.Value).IsNil", "(internal/reflectlite.Value).Elem", "(internal/reflectlite.Value).Set"], unfollowed := true, recurses := true, named := ["scrinium/api.ErrLong", "scrinium/api.ErrForm", "math/bits.deBruijn32tab", "scrinium/api.ErrRange", "scrinium/api.ErrFull", "scrinium/api.ErrNone", "scrinium/api.ErrCorrupt", "scrinium/api.ErrFuel", "scrinium/api.ErrState", "scrinium/api.ErrTwice", "errors.errorType"], plainKeys := false, apart := false, laid := [("math/bits.deBruijn32tab", laid_math_bits_deBruijn32tab), ("errors.errorType", laid_errors_errorType), ("scrinium/api.ErrForm", laid_scrinium_api_ErrForm), ("scrinium/api.ErrRange", laid_scrinium_api_ErrRange), ("scrinium/api.ErrFull", laid_scrinium_api_ErrFull), ("scrinium/api.ErrNone", laid_scrinium_api_ErrNone), ("scrinium/api.ErrCorrupt", laid_scrinium_api_ErrCorrupt), ("scrinium/api.ErrFuel", laid_scrinium_api_ErrFuel), ("scrinium/api.ErrState", laid_scrinium_api_ErrState), ("scrinium/api.ErrLong", laid_scrinium_api_ErrLong), ("scrinium/api.ErrTwice", laid_scrinium_api_ErrTwice)] }
def TableNewsSaid : Prop := tableNewsRow.holds Tryz.pinned (OpenSpec.ofChange tableNewsSpec)

/-- ITS FALSE NEIGHBOUR: 'it returns false'. Refute it at one input. -/
def tableNewsWrong : ChangeSpec := { name := "tableNews", fn := fun _ => fun
  | [d1, d2] => { results := [.lit (.bool false)], args := [d1, d2] }
  | _ => none }
def TableNewsWrongFalsely : Prop := tableNewsRow.holds Tryz.pinned (OpenSpec.ofChange tableNewsWrong)

/-- 'scriniumlaw30.EnterBack': WHATEVER THE INPUT: true; the input reads as it did. -/
def enterBackSpec : ChangeSpec := { name := "enterBack", fn := fun _ => fun
  | [d1, d2] => { results := [.lit (.bool true)], args := [d1, d2] }
  | _ => none }
def enterBackRow : OpenClaim := { program := "ytlmekdfleciejaagreatdoor", sum := "7ac1fc69a5339b4660413caf1cf273e4b9f888972c1f8b19e5975078fab62b6e", func := "scrinium/scriniumlaw30.EnterBack", spec := "enterBack", inPlace := ["slices.overlaps[scrinium/api.Memory]"], unfollowed := true, recurses := true, named := ["scrinium/api.ErrLong", "scrinium/api.ErrForm", "math/bits.deBruijn32tab", "scrinium/api.ErrState"], plainKeys := false, apart := false, laid := [("math/bits.deBruijn32tab", laid_math_bits_deBruijn32tab), ("scrinium/api.ErrForm", laid_scrinium_api_ErrForm), ("scrinium/api.ErrState", laid_scrinium_api_ErrState), ("scrinium/api.ErrLong", laid_scrinium_api_ErrLong)] }
def EnterBackSaid : Prop := enterBackRow.holds Tryz.pinned (OpenSpec.ofChange enterBackSpec)

/-- ITS FALSE NEIGHBOUR: 'it returns false'. Refute it at one input. -/
def enterBackWrong : ChangeSpec := { name := "enterBack", fn := fun _ => fun
  | [d1, d2] => { results := [.lit (.bool false)], args := [d1, d2] }
  | _ => none }
def EnterBackWrongFalsely : Prop := enterBackRow.holds Tryz.pinned (OpenSpec.ofChange enterBackWrong)

/-- 'scriniumlaw30.EnterLegal': WHATEVER THE INPUT: true; the input reads as it did. -/
def enterLegalSpec : ChangeSpec := { name := "enterLegal", fn := fun _ => fun
  | [d] => { results := [.lit (.bool true)], args := [d] }
  | _ => none }
def enterLegalRow : OpenClaim := { program := "ytlmekdfleciejaagreatdoor", sum := "7ac1fc69a5339b4660413caf1cf273e4b9f888972c1f8b19e5975078fab62b6e", func := "scrinium/scriniumlaw30.EnterLegal", spec := "enterLegal", inPlace := ["slices.overlaps[scrinium/api.Memory]"], unfollowed := true, recurses := true, named := ["scrinium/api.ErrLong", "scrinium/api.ErrForm", "math/bits.deBruijn32tab", "scrinium/api.ErrState"], plainKeys := false, apart := false, laid := [("math/bits.deBruijn32tab", laid_math_bits_deBruijn32tab), ("scrinium/api.ErrForm", laid_scrinium_api_ErrForm), ("scrinium/api.ErrState", laid_scrinium_api_ErrState), ("scrinium/api.ErrLong", laid_scrinium_api_ErrLong)] }
def EnterLegalSaid : Prop := enterLegalRow.holds Tryz.pinned (OpenSpec.ofChange enterLegalSpec)

/-- ITS FALSE NEIGHBOUR: 'it returns false'. Refute it at one input. -/
def enterLegalWrong : ChangeSpec := { name := "enterLegal", fn := fun _ => fun
  | [d] => { results := [.lit (.bool false)], args := [d] }
  | _ => none }
def EnterLegalWrongFalsely : Prop := enterLegalRow.holds Tryz.pinned (OpenSpec.ofChange enterLegalWrong)

/-- 'scriniumlaw30.EnterChecks': WHATEVER THE INPUT: true; the input reads as it did. -/
def enterChecksSpec : ChangeSpec := { name := "enterChecks", fn := fun _ => fun
  | [d] => { results := [.lit (.bool true)], args := [d] }
  | _ => none }
def enterChecksRow : OpenClaim := { program := "ytlmekdfleciejaagreatdoor", sum := "7ac1fc69a5339b4660413caf1cf273e4b9f888972c1f8b19e5975078fab62b6e", func := "scrinium/scriniumlaw30.EnterChecks", spec := "enterChecks", inPlace := ["slices.overlaps[scrinium/api.Memory]", "internal/reflectlite.TypeOf"], unfollowed := true, recurses := true, named := ["scrinium/api.ErrLong", "scrinium/api.ErrForm", "math/bits.deBruijn32tab", "scrinium/api.ErrState", "scrinium/api.ErrRange", "scrinium/api.ErrFull", "scrinium/api.ErrNone", "scrinium/api.ErrCorrupt", "scrinium/api.ErrFuel", "scrinium/api.ErrTwice"], plainKeys := false, apart := false, laid := [("math/bits.deBruijn32tab", laid_math_bits_deBruijn32tab), ("scrinium/api.ErrForm", laid_scrinium_api_ErrForm), ("scrinium/api.ErrRange", laid_scrinium_api_ErrRange), ("scrinium/api.ErrFull", laid_scrinium_api_ErrFull), ("scrinium/api.ErrNone", laid_scrinium_api_ErrNone), ("scrinium/api.ErrCorrupt", laid_scrinium_api_ErrCorrupt), ("scrinium/api.ErrFuel", laid_scrinium_api_ErrFuel), ("scrinium/api.ErrState", laid_scrinium_api_ErrState), ("scrinium/api.ErrLong", laid_scrinium_api_ErrLong), ("scrinium/api.ErrTwice", laid_scrinium_api_ErrTwice)] }
def EnterChecksSaid : Prop := enterChecksRow.holds Tryz.pinned (OpenSpec.ofChange enterChecksSpec)

/-- ITS FALSE NEIGHBOUR: 'it returns false'. Refute it at one input. -/
def enterChecksWrong : ChangeSpec := { name := "enterChecks", fn := fun _ => fun
  | [d] => { results := [.lit (.bool false)], args := [d] }
  | _ => none }
def EnterChecksWrongFalsely : Prop := enterChecksRow.holds Tryz.pinned (OpenSpec.ofChange enterChecksWrong)

/-- 'scriniumlaw30.EnterMoves': WHATEVER THE INPUT: true; the input reads as it did. -/
def enterMovesSpec : ChangeSpec := { name := "enterMoves", fn := fun _ => fun
  | [d] => { results := [.lit (.bool true)], args := [d] }
  | _ => none }
def enterMovesRow : OpenClaim := { program := "ytlmekdfleciejaagreatdoor", sum := "7ac1fc69a5339b4660413caf1cf273e4b9f888972c1f8b19e5975078fab62b6e", func := "scrinium/scriniumlaw30.EnterMoves", spec := "enterMoves", inPlace := ["slices.overlaps[scrinium/api.Memory]", "internal/reflectlite.TypeOf"], unfollowed := true, recurses := true, named := ["scrinium/api.ErrLong", "scrinium/api.ErrForm", "math/bits.deBruijn32tab", "scrinium/api.ErrState", "scrinium/api.ErrRange", "scrinium/api.ErrFull", "scrinium/api.ErrNone", "scrinium/api.ErrCorrupt", "scrinium/api.ErrFuel", "scrinium/api.ErrTwice"], plainKeys := false, apart := false, laid := [("math/bits.deBruijn32tab", laid_math_bits_deBruijn32tab), ("scrinium/api.ErrForm", laid_scrinium_api_ErrForm), ("scrinium/api.ErrRange", laid_scrinium_api_ErrRange), ("scrinium/api.ErrFull", laid_scrinium_api_ErrFull), ("scrinium/api.ErrNone", laid_scrinium_api_ErrNone), ("scrinium/api.ErrCorrupt", laid_scrinium_api_ErrCorrupt), ("scrinium/api.ErrFuel", laid_scrinium_api_ErrFuel), ("scrinium/api.ErrState", laid_scrinium_api_ErrState), ("scrinium/api.ErrLong", laid_scrinium_api_ErrLong), ("scrinium/api.ErrTwice", laid_scrinium_api_ErrTwice)] }
def EnterMovesSaid : Prop := enterMovesRow.holds Tryz.pinned (OpenSpec.ofChange enterMovesSpec)

/-- ITS FALSE NEIGHBOUR: 'it returns false'. Refute it at one input. -/
def enterMovesWrong : ChangeSpec := { name := "enterMoves", fn := fun _ => fun
  | [d] => { results := [.lit (.bool false)], args := [d] }
  | _ => none }
def EnterMovesWrongFalsely : Prop := enterMovesRow.holds Tryz.pinned (OpenSpec.ofChange enterMovesWrong)

/-- 'scriniumlaw30.EnterTargets': WHATEVER THE INPUT: true; the input reads as it did. -/
def enterTargetsSpec : ChangeSpec := { name := "enterTargets", fn := fun _ => fun
  | [d] => { results := [.lit (.bool true)], args := [d] }
  | _ => none }
def enterTargetsRow : OpenClaim := { program := "ytlmekdfleciejaagreatdoor", sum := "7ac1fc69a5339b4660413caf1cf273e4b9f888972c1f8b19e5975078fab62b6e", func := "scrinium/scriniumlaw30.EnterTargets", spec := "enterTargets", inPlace := ["slices.overlaps[scrinium/api.Memory]", "internal/reflectlite.TypeOf"], unfollowed := true, recurses := true, named := ["scrinium/api.ErrLong", "scrinium/api.ErrForm", "math/bits.deBruijn32tab", "scrinium/api.ErrState", "scrinium/api.ErrRange", "scrinium/api.ErrFull", "scrinium/api.ErrNone", "scrinium/api.ErrCorrupt", "scrinium/api.ErrFuel", "scrinium/api.ErrTwice"], plainKeys := false, apart := false, laid := [("math/bits.deBruijn32tab", laid_math_bits_deBruijn32tab), ("scrinium/api.ErrForm", laid_scrinium_api_ErrForm), ("scrinium/api.ErrRange", laid_scrinium_api_ErrRange), ("scrinium/api.ErrFull", laid_scrinium_api_ErrFull), ("scrinium/api.ErrNone", laid_scrinium_api_ErrNone), ("scrinium/api.ErrCorrupt", laid_scrinium_api_ErrCorrupt), ("scrinium/api.ErrFuel", laid_scrinium_api_ErrFuel), ("scrinium/api.ErrState", laid_scrinium_api_ErrState), ("scrinium/api.ErrLong", laid_scrinium_api_ErrLong), ("scrinium/api.ErrTwice", laid_scrinium_api_ErrTwice)] }
def EnterTargetsSaid : Prop := enterTargetsRow.holds Tryz.pinned (OpenSpec.ofChange enterTargetsSpec)

/-- ITS FALSE NEIGHBOUR: 'it returns false'. Refute it at one input. -/
def enterTargetsWrong : ChangeSpec := { name := "enterTargets", fn := fun _ => fun
  | [d] => { results := [.lit (.bool false)], args := [d] }
  | _ => none }
def EnterTargetsWrongFalsely : Prop := enterTargetsRow.holds Tryz.pinned (OpenSpec.ofChange enterTargetsWrong)

/-- 'scriniumlaw30.EnterRemembers': WHATEVER THE INPUT: true; the input reads as it did. -/
def enterRemembersSpec : ChangeSpec := { name := "enterRemembers", fn := fun _ => fun
  | [d1, d2] => { results := [.lit (.bool true)], args := [d1, d2] }
  | _ => none }
def enterRemembersRow : OpenClaim := { program := "ytlmekdfleciejaagreatdoor", sum := "7ac1fc69a5339b4660413caf1cf273e4b9f888972c1f8b19e5975078fab62b6e", func := "scrinium/scriniumlaw30.EnterRemembers", spec := "enterRemembers", inPlace := ["slices.overlaps[scrinium/api.Memory]", "internal/reflectlite.TypeOf"], unfollowed := true, recurses := true, named := ["scrinium/api.ErrLong", "scrinium/api.ErrForm", "math/bits.deBruijn32tab", "scrinium/api.ErrState", "scrinium/api.ErrRange", "scrinium/api.ErrFull", "scrinium/api.ErrNone", "scrinium/api.ErrCorrupt", "scrinium/api.ErrFuel", "scrinium/api.ErrTwice"], plainKeys := false, apart := false, laid := [("math/bits.deBruijn32tab", laid_math_bits_deBruijn32tab), ("scrinium/api.ErrForm", laid_scrinium_api_ErrForm), ("scrinium/api.ErrRange", laid_scrinium_api_ErrRange), ("scrinium/api.ErrFull", laid_scrinium_api_ErrFull), ("scrinium/api.ErrNone", laid_scrinium_api_ErrNone), ("scrinium/api.ErrCorrupt", laid_scrinium_api_ErrCorrupt), ("scrinium/api.ErrFuel", laid_scrinium_api_ErrFuel), ("scrinium/api.ErrState", laid_scrinium_api_ErrState), ("scrinium/api.ErrLong", laid_scrinium_api_ErrLong), ("scrinium/api.ErrTwice", laid_scrinium_api_ErrTwice)] }
def EnterRemembersSaid : Prop := enterRemembersRow.holds Tryz.pinned (OpenSpec.ofChange enterRemembersSpec)

/-- ITS FALSE NEIGHBOUR: 'it returns false'. Refute it at one input. -/
def enterRemembersWrong : ChangeSpec := { name := "enterRemembers", fn := fun _ => fun
  | [d1, d2] => { results := [.lit (.bool false)], args := [d1, d2] }
  | _ => none }
def EnterRemembersWrongFalsely : Prop := enterRemembersRow.holds Tryz.pinned (OpenSpec.ofChange enterRemembersWrong)

/-- 'scriniumlaw30.EnterDomains': WHATEVER THE INPUT: true; the input reads as it did. -/
def enterDomainsSpec : ChangeSpec := { name := "enterDomains", fn := fun _ => fun
  | [d1, d2] => { results := [.lit (.bool true)], args := [d1, d2] }
  | _ => none }
def enterDomainsRow : OpenClaim := { program := "ytlmekdfleciejaagreatdoor", sum := "7ac1fc69a5339b4660413caf1cf273e4b9f888972c1f8b19e5975078fab62b6e", func := "scrinium/scriniumlaw30.EnterDomains", spec := "enterDomains", inPlace := ["slices.overlaps[scrinium/api.Memory]", "internal/reflectlite.TypeOf"], unfollowed := true, recurses := true, named := ["scrinium/api.ErrState", "scrinium/api.ErrForm", "scrinium/api.ErrRange", "scrinium/api.ErrFull", "scrinium/api.ErrNone", "scrinium/api.ErrCorrupt", "scrinium/api.ErrFuel", "scrinium/api.ErrLong", "scrinium/api.ErrTwice", "math/bits.deBruijn32tab"], plainKeys := false, apart := false, laid := [("math/bits.deBruijn32tab", laid_math_bits_deBruijn32tab), ("scrinium/api.ErrForm", laid_scrinium_api_ErrForm), ("scrinium/api.ErrRange", laid_scrinium_api_ErrRange), ("scrinium/api.ErrFull", laid_scrinium_api_ErrFull), ("scrinium/api.ErrNone", laid_scrinium_api_ErrNone), ("scrinium/api.ErrCorrupt", laid_scrinium_api_ErrCorrupt), ("scrinium/api.ErrFuel", laid_scrinium_api_ErrFuel), ("scrinium/api.ErrState", laid_scrinium_api_ErrState), ("scrinium/api.ErrLong", laid_scrinium_api_ErrLong), ("scrinium/api.ErrTwice", laid_scrinium_api_ErrTwice)] }
def EnterDomainsSaid : Prop := enterDomainsRow.holds Tryz.pinned (OpenSpec.ofChange enterDomainsSpec)

/-- ITS FALSE NEIGHBOUR: 'it returns false'. Refute it at one input. -/
def enterDomainsWrong : ChangeSpec := { name := "enterDomains", fn := fun _ => fun
  | [d1, d2] => { results := [.lit (.bool false)], args := [d1, d2] }
  | _ => none }
def EnterDomainsWrongFalsely : Prop := enterDomainsRow.holds Tryz.pinned (OpenSpec.ofChange enterDomainsWrong)

/-- 'scriniumlaw30.EnterLeaves': WHATEVER THE INPUT: true; the input reads as it did. -/
def enterLeavesSpec : ChangeSpec := { name := "enterLeaves", fn := fun _ => fun
  | [d] => { results := [.lit (.bool true)], args := [d] }
  | _ => none }
def enterLeavesRow : OpenClaim := { program := "ytlmekdfleciejaagreatdoor", sum := "7ac1fc69a5339b4660413caf1cf273e4b9f888972c1f8b19e5975078fab62b6e", func := "scrinium/scriniumlaw30.EnterLeaves", spec := "enterLeaves", inPlace := ["slices.overlaps[scrinium/api.Memory]", "internal/reflectlite.TypeOf", "internal/reflectlite.ValueOf", "(internal/reflectlite.Value).Type", "(internal/reflectlite.Value).IsNil", "(internal/reflectlite.Value).Elem", "(internal/reflectlite.Value).Set"], unfollowed := true, recurses := true, named := ["scrinium/api.ErrLong", "scrinium/api.ErrForm", "math/bits.deBruijn32tab", "scrinium/api.ErrState", "scrinium/api.ErrRange", "scrinium/api.ErrFull", "scrinium/api.ErrNone", "scrinium/api.ErrCorrupt", "scrinium/api.ErrFuel", "scrinium/api.ErrTwice", "errors.errorType"], plainKeys := false, apart := false, laid := [("math/bits.deBruijn32tab", laid_math_bits_deBruijn32tab), ("errors.errorType", laid_errors_errorType), ("scrinium/api.ErrForm", laid_scrinium_api_ErrForm), ("scrinium/api.ErrRange", laid_scrinium_api_ErrRange), ("scrinium/api.ErrFull", laid_scrinium_api_ErrFull), ("scrinium/api.ErrNone", laid_scrinium_api_ErrNone), ("scrinium/api.ErrCorrupt", laid_scrinium_api_ErrCorrupt), ("scrinium/api.ErrFuel", laid_scrinium_api_ErrFuel), ("scrinium/api.ErrState", laid_scrinium_api_ErrState), ("scrinium/api.ErrLong", laid_scrinium_api_ErrLong), ("scrinium/api.ErrTwice", laid_scrinium_api_ErrTwice)] }
def EnterLeavesSaid : Prop := enterLeavesRow.holds Tryz.pinned (OpenSpec.ofChange enterLeavesSpec)

/-- ITS FALSE NEIGHBOUR: 'it returns false'. Refute it at one input. -/
def enterLeavesWrong : ChangeSpec := { name := "enterLeaves", fn := fun _ => fun
  | [d] => { results := [.lit (.bool false)], args := [d] }
  | _ => none }
def EnterLeavesWrongFalsely : Prop := enterLeavesRow.holds Tryz.pinned (OpenSpec.ofChange enterLeavesWrong)

/- THE SECOND FORM. 'bulk': how many values and letters a reading holds, each counted each time it is reached (what is shared counts as often as it is met; a slice's spare places count too). A statement '..UptoSaid' is the law's where the arguments, and the package variables that the reading takes, are together of bulk at most 1048576: NARROWER than '..Said'. Prove '..Said' where nothing that the law and all that it calls make is longer than what came in: it says more and counts as full. Else prove '..UptoSaid'. A law counts once. -/
mutual
def uptoBulk {H : Type} : DataW H → Nat
  | .lit (.string bytes) => bytes.length + 1
  | .lit _ => 1
  | .nil => 1
  | .ptr d => uptoBulk d + 1
  | .slice elems spare => uptoBulkAll elems + uptoBulkAll spare + 1
  | .agg parts => uptoBulkAll parts + 1
  | .iface _ d => uptoBulk d + 1
  | .map entries => uptoBulkEntries entries + 1
  | .held _ => 1
def uptoBulkAll {H : Type} : List (DataW H) → Nat
  | [] => 0
  | d :: r => uptoBulk d + uptoBulkAll r
def uptoBulkEntries {H : Type} : List (Lit × DataW H) → Nat
  | [] => 0
  | x :: r => uptoBulkEntry x + uptoBulkEntries r
def uptoBulkEntry {H : Type} : Lit × DataW H → Nat
  | (.string bytes, d) => bytes.length + uptoBulk d + 1
  | (_, d) => uptoBulk d + 1
 end
def uptoSmall : (H : Type) → List (DataW H) → Bool := fun _ ds => decide (uptoBulkAll ds ≤ 1048576)
def OpenSpec.upto (s : _root_.Go.ChangeSpec) : _root_.Go.OpenSpec := { _root_.Go.OpenSpec.ofChange s with cond := some uptoSmall }

/-- 'scriniumlaw28.TableStays', WHERE WHAT IT READS IS OF BULK AT MOST 1048576: true; the input reads as it did. -/
def tableStaysUptoRow : OpenClaim := { program := "ytlmekdfleciejaagreatdoor", sum := "7ac1fc69a5339b4660413caf1cf273e4b9f888972c1f8b19e5975078fab62b6e", func := "scrinium/scriniumlaw28.TableStays", spec := "tableStays", unfollowed := true, recurses := true, named := ["scrinium/api.ErrLong", "scrinium/api.ErrForm", "math/bits.deBruijn32tab"], plainKeys := false, apart := false, laid := [("math/bits.deBruijn32tab", laid_math_bits_deBruijn32tab), ("scrinium/api.ErrForm", laid_scrinium_api_ErrForm), ("scrinium/api.ErrLong", laid_scrinium_api_ErrLong)], narrowed := true }
def TableStaysUptoSaid : Prop := tableStaysUptoRow.holds Tryz.pinned (OpenSpec.upto tableStaysSpec)

/-- 'scriniumlaw28.TableReaches', WHERE WHAT IT READS IS OF BULK AT MOST 1048576: true; the input reads as it did. -/
def tableReachesUptoRow : OpenClaim := { program := "ytlmekdfleciejaagreatdoor", sum := "7ac1fc69a5339b4660413caf1cf273e4b9f888972c1f8b19e5975078fab62b6e", func := "scrinium/scriniumlaw28.TableReaches", spec := "tableReaches", unfollowed := true, recurses := true, named := ["scrinium/api.ErrLong", "scrinium/api.ErrForm", "math/bits.deBruijn32tab"], plainKeys := false, apart := false, laid := [("math/bits.deBruijn32tab", laid_math_bits_deBruijn32tab), ("scrinium/api.ErrForm", laid_scrinium_api_ErrForm), ("scrinium/api.ErrLong", laid_scrinium_api_ErrLong)], narrowed := true }
def TableReachesUptoSaid : Prop := tableReachesUptoRow.holds Tryz.pinned (OpenSpec.upto tableReachesSpec)

/-- 'scriniumlaw28.TableNews', WHERE WHAT IT READS IS OF BULK AT MOST 1048576: true; the input reads as it did. -/
def tableNewsUptoRow : OpenClaim := { program := "ytlmekdfleciejaagreatdoor", sum := "7ac1fc69a5339b4660413caf1cf273e4b9f888972c1f8b19e5975078fab62b6e", func := "scrinium/scriniumlaw28.TableNews", spec := "tableNews", inPlace := ["internal/reflectlite.TypeOf", "internal/reflectlite.ValueOf", "(internal/reflectlite.Value).Type", "(internal/reflectlite.Value).IsNil", "(internal/reflectlite.Value).Elem", "(internal/reflectlite.Value).Set"], unfollowed := true, recurses := true, named := ["scrinium/api.ErrLong", "scrinium/api.ErrForm", "math/bits.deBruijn32tab", "scrinium/api.ErrRange", "scrinium/api.ErrFull", "scrinium/api.ErrNone", "scrinium/api.ErrCorrupt", "scrinium/api.ErrFuel", "scrinium/api.ErrState", "scrinium/api.ErrTwice", "errors.errorType"], plainKeys := false, apart := false, laid := [("math/bits.deBruijn32tab", laid_math_bits_deBruijn32tab), ("errors.errorType", laid_errors_errorType), ("scrinium/api.ErrForm", laid_scrinium_api_ErrForm), ("scrinium/api.ErrRange", laid_scrinium_api_ErrRange), ("scrinium/api.ErrFull", laid_scrinium_api_ErrFull), ("scrinium/api.ErrNone", laid_scrinium_api_ErrNone), ("scrinium/api.ErrCorrupt", laid_scrinium_api_ErrCorrupt), ("scrinium/api.ErrFuel", laid_scrinium_api_ErrFuel), ("scrinium/api.ErrState", laid_scrinium_api_ErrState), ("scrinium/api.ErrLong", laid_scrinium_api_ErrLong), ("scrinium/api.ErrTwice", laid_scrinium_api_ErrTwice)], narrowed := true }
def TableNewsUptoSaid : Prop := tableNewsUptoRow.holds Tryz.pinned (OpenSpec.upto tableNewsSpec)

/-- 'scriniumlaw30.EnterBack', WHERE WHAT IT READS IS OF BULK AT MOST 1048576: true; the input reads as it did. -/
def enterBackUptoRow : OpenClaim := { program := "ytlmekdfleciejaagreatdoor", sum := "7ac1fc69a5339b4660413caf1cf273e4b9f888972c1f8b19e5975078fab62b6e", func := "scrinium/scriniumlaw30.EnterBack", spec := "enterBack", inPlace := ["slices.overlaps[scrinium/api.Memory]"], unfollowed := true, recurses := true, named := ["scrinium/api.ErrLong", "scrinium/api.ErrForm", "math/bits.deBruijn32tab", "scrinium/api.ErrState"], plainKeys := false, apart := false, laid := [("math/bits.deBruijn32tab", laid_math_bits_deBruijn32tab), ("scrinium/api.ErrForm", laid_scrinium_api_ErrForm), ("scrinium/api.ErrState", laid_scrinium_api_ErrState), ("scrinium/api.ErrLong", laid_scrinium_api_ErrLong)], narrowed := true }
def EnterBackUptoSaid : Prop := enterBackUptoRow.holds Tryz.pinned (OpenSpec.upto enterBackSpec)

/-- 'scriniumlaw30.EnterLegal', WHERE WHAT IT READS IS OF BULK AT MOST 1048576: true; the input reads as it did. -/
def enterLegalUptoRow : OpenClaim := { program := "ytlmekdfleciejaagreatdoor", sum := "7ac1fc69a5339b4660413caf1cf273e4b9f888972c1f8b19e5975078fab62b6e", func := "scrinium/scriniumlaw30.EnterLegal", spec := "enterLegal", inPlace := ["slices.overlaps[scrinium/api.Memory]"], unfollowed := true, recurses := true, named := ["scrinium/api.ErrLong", "scrinium/api.ErrForm", "math/bits.deBruijn32tab", "scrinium/api.ErrState"], plainKeys := false, apart := false, laid := [("math/bits.deBruijn32tab", laid_math_bits_deBruijn32tab), ("scrinium/api.ErrForm", laid_scrinium_api_ErrForm), ("scrinium/api.ErrState", laid_scrinium_api_ErrState), ("scrinium/api.ErrLong", laid_scrinium_api_ErrLong)], narrowed := true }
def EnterLegalUptoSaid : Prop := enterLegalUptoRow.holds Tryz.pinned (OpenSpec.upto enterLegalSpec)

/-- 'scriniumlaw30.EnterChecks', WHERE WHAT IT READS IS OF BULK AT MOST 1048576: true; the input reads as it did. -/
def enterChecksUptoRow : OpenClaim := { program := "ytlmekdfleciejaagreatdoor", sum := "7ac1fc69a5339b4660413caf1cf273e4b9f888972c1f8b19e5975078fab62b6e", func := "scrinium/scriniumlaw30.EnterChecks", spec := "enterChecks", inPlace := ["slices.overlaps[scrinium/api.Memory]", "internal/reflectlite.TypeOf"], unfollowed := true, recurses := true, named := ["scrinium/api.ErrLong", "scrinium/api.ErrForm", "math/bits.deBruijn32tab", "scrinium/api.ErrState", "scrinium/api.ErrRange", "scrinium/api.ErrFull", "scrinium/api.ErrNone", "scrinium/api.ErrCorrupt", "scrinium/api.ErrFuel", "scrinium/api.ErrTwice"], plainKeys := false, apart := false, laid := [("math/bits.deBruijn32tab", laid_math_bits_deBruijn32tab), ("scrinium/api.ErrForm", laid_scrinium_api_ErrForm), ("scrinium/api.ErrRange", laid_scrinium_api_ErrRange), ("scrinium/api.ErrFull", laid_scrinium_api_ErrFull), ("scrinium/api.ErrNone", laid_scrinium_api_ErrNone), ("scrinium/api.ErrCorrupt", laid_scrinium_api_ErrCorrupt), ("scrinium/api.ErrFuel", laid_scrinium_api_ErrFuel), ("scrinium/api.ErrState", laid_scrinium_api_ErrState), ("scrinium/api.ErrLong", laid_scrinium_api_ErrLong), ("scrinium/api.ErrTwice", laid_scrinium_api_ErrTwice)], narrowed := true }
def EnterChecksUptoSaid : Prop := enterChecksUptoRow.holds Tryz.pinned (OpenSpec.upto enterChecksSpec)

/-- 'scriniumlaw30.EnterMoves', WHERE WHAT IT READS IS OF BULK AT MOST 1048576: true; the input reads as it did. -/
def enterMovesUptoRow : OpenClaim := { program := "ytlmekdfleciejaagreatdoor", sum := "7ac1fc69a5339b4660413caf1cf273e4b9f888972c1f8b19e5975078fab62b6e", func := "scrinium/scriniumlaw30.EnterMoves", spec := "enterMoves", inPlace := ["slices.overlaps[scrinium/api.Memory]", "internal/reflectlite.TypeOf"], unfollowed := true, recurses := true, named := ["scrinium/api.ErrLong", "scrinium/api.ErrForm", "math/bits.deBruijn32tab", "scrinium/api.ErrState", "scrinium/api.ErrRange", "scrinium/api.ErrFull", "scrinium/api.ErrNone", "scrinium/api.ErrCorrupt", "scrinium/api.ErrFuel", "scrinium/api.ErrTwice"], plainKeys := false, apart := false, laid := [("math/bits.deBruijn32tab", laid_math_bits_deBruijn32tab), ("scrinium/api.ErrForm", laid_scrinium_api_ErrForm), ("scrinium/api.ErrRange", laid_scrinium_api_ErrRange), ("scrinium/api.ErrFull", laid_scrinium_api_ErrFull), ("scrinium/api.ErrNone", laid_scrinium_api_ErrNone), ("scrinium/api.ErrCorrupt", laid_scrinium_api_ErrCorrupt), ("scrinium/api.ErrFuel", laid_scrinium_api_ErrFuel), ("scrinium/api.ErrState", laid_scrinium_api_ErrState), ("scrinium/api.ErrLong", laid_scrinium_api_ErrLong), ("scrinium/api.ErrTwice", laid_scrinium_api_ErrTwice)], narrowed := true }
def EnterMovesUptoSaid : Prop := enterMovesUptoRow.holds Tryz.pinned (OpenSpec.upto enterMovesSpec)

/-- 'scriniumlaw30.EnterTargets', WHERE WHAT IT READS IS OF BULK AT MOST 1048576: true; the input reads as it did. -/
def enterTargetsUptoRow : OpenClaim := { program := "ytlmekdfleciejaagreatdoor", sum := "7ac1fc69a5339b4660413caf1cf273e4b9f888972c1f8b19e5975078fab62b6e", func := "scrinium/scriniumlaw30.EnterTargets", spec := "enterTargets", inPlace := ["slices.overlaps[scrinium/api.Memory]", "internal/reflectlite.TypeOf"], unfollowed := true, recurses := true, named := ["scrinium/api.ErrLong", "scrinium/api.ErrForm", "math/bits.deBruijn32tab", "scrinium/api.ErrState", "scrinium/api.ErrRange", "scrinium/api.ErrFull", "scrinium/api.ErrNone", "scrinium/api.ErrCorrupt", "scrinium/api.ErrFuel", "scrinium/api.ErrTwice"], plainKeys := false, apart := false, laid := [("math/bits.deBruijn32tab", laid_math_bits_deBruijn32tab), ("scrinium/api.ErrForm", laid_scrinium_api_ErrForm), ("scrinium/api.ErrRange", laid_scrinium_api_ErrRange), ("scrinium/api.ErrFull", laid_scrinium_api_ErrFull), ("scrinium/api.ErrNone", laid_scrinium_api_ErrNone), ("scrinium/api.ErrCorrupt", laid_scrinium_api_ErrCorrupt), ("scrinium/api.ErrFuel", laid_scrinium_api_ErrFuel), ("scrinium/api.ErrState", laid_scrinium_api_ErrState), ("scrinium/api.ErrLong", laid_scrinium_api_ErrLong), ("scrinium/api.ErrTwice", laid_scrinium_api_ErrTwice)], narrowed := true }
def EnterTargetsUptoSaid : Prop := enterTargetsUptoRow.holds Tryz.pinned (OpenSpec.upto enterTargetsSpec)

/-- 'scriniumlaw30.EnterRemembers', WHERE WHAT IT READS IS OF BULK AT MOST 1048576: true; the input reads as it did. -/
def enterRemembersUptoRow : OpenClaim := { program := "ytlmekdfleciejaagreatdoor", sum := "7ac1fc69a5339b4660413caf1cf273e4b9f888972c1f8b19e5975078fab62b6e", func := "scrinium/scriniumlaw30.EnterRemembers", spec := "enterRemembers", inPlace := ["slices.overlaps[scrinium/api.Memory]", "internal/reflectlite.TypeOf"], unfollowed := true, recurses := true, named := ["scrinium/api.ErrLong", "scrinium/api.ErrForm", "math/bits.deBruijn32tab", "scrinium/api.ErrState", "scrinium/api.ErrRange", "scrinium/api.ErrFull", "scrinium/api.ErrNone", "scrinium/api.ErrCorrupt", "scrinium/api.ErrFuel", "scrinium/api.ErrTwice"], plainKeys := false, apart := false, laid := [("math/bits.deBruijn32tab", laid_math_bits_deBruijn32tab), ("scrinium/api.ErrForm", laid_scrinium_api_ErrForm), ("scrinium/api.ErrRange", laid_scrinium_api_ErrRange), ("scrinium/api.ErrFull", laid_scrinium_api_ErrFull), ("scrinium/api.ErrNone", laid_scrinium_api_ErrNone), ("scrinium/api.ErrCorrupt", laid_scrinium_api_ErrCorrupt), ("scrinium/api.ErrFuel", laid_scrinium_api_ErrFuel), ("scrinium/api.ErrState", laid_scrinium_api_ErrState), ("scrinium/api.ErrLong", laid_scrinium_api_ErrLong), ("scrinium/api.ErrTwice", laid_scrinium_api_ErrTwice)], narrowed := true }
def EnterRemembersUptoSaid : Prop := enterRemembersUptoRow.holds Tryz.pinned (OpenSpec.upto enterRemembersSpec)

/-- 'scriniumlaw30.EnterDomains', WHERE WHAT IT READS IS OF BULK AT MOST 1048576: true; the input reads as it did. -/
def enterDomainsUptoRow : OpenClaim := { program := "ytlmekdfleciejaagreatdoor", sum := "7ac1fc69a5339b4660413caf1cf273e4b9f888972c1f8b19e5975078fab62b6e", func := "scrinium/scriniumlaw30.EnterDomains", spec := "enterDomains", inPlace := ["slices.overlaps[scrinium/api.Memory]", "internal/reflectlite.TypeOf"], unfollowed := true, recurses := true, named := ["scrinium/api.ErrState", "scrinium/api.ErrForm", "scrinium/api.ErrRange", "scrinium/api.ErrFull", "scrinium/api.ErrNone", "scrinium/api.ErrCorrupt", "scrinium/api.ErrFuel", "scrinium/api.ErrLong", "scrinium/api.ErrTwice", "math/bits.deBruijn32tab"], plainKeys := false, apart := false, laid := [("math/bits.deBruijn32tab", laid_math_bits_deBruijn32tab), ("scrinium/api.ErrForm", laid_scrinium_api_ErrForm), ("scrinium/api.ErrRange", laid_scrinium_api_ErrRange), ("scrinium/api.ErrFull", laid_scrinium_api_ErrFull), ("scrinium/api.ErrNone", laid_scrinium_api_ErrNone), ("scrinium/api.ErrCorrupt", laid_scrinium_api_ErrCorrupt), ("scrinium/api.ErrFuel", laid_scrinium_api_ErrFuel), ("scrinium/api.ErrState", laid_scrinium_api_ErrState), ("scrinium/api.ErrLong", laid_scrinium_api_ErrLong), ("scrinium/api.ErrTwice", laid_scrinium_api_ErrTwice)], narrowed := true }
def EnterDomainsUptoSaid : Prop := enterDomainsUptoRow.holds Tryz.pinned (OpenSpec.upto enterDomainsSpec)

/-- 'scriniumlaw30.EnterLeaves', WHERE WHAT IT READS IS OF BULK AT MOST 1048576: true; the input reads as it did. -/
def enterLeavesUptoRow : OpenClaim := { program := "ytlmekdfleciejaagreatdoor", sum := "7ac1fc69a5339b4660413caf1cf273e4b9f888972c1f8b19e5975078fab62b6e", func := "scrinium/scriniumlaw30.EnterLeaves", spec := "enterLeaves", inPlace := ["slices.overlaps[scrinium/api.Memory]", "internal/reflectlite.TypeOf", "internal/reflectlite.ValueOf", "(internal/reflectlite.Value).Type", "(internal/reflectlite.Value).IsNil", "(internal/reflectlite.Value).Elem", "(internal/reflectlite.Value).Set"], unfollowed := true, recurses := true, named := ["scrinium/api.ErrLong", "scrinium/api.ErrForm", "math/bits.deBruijn32tab", "scrinium/api.ErrState", "scrinium/api.ErrRange", "scrinium/api.ErrFull", "scrinium/api.ErrNone", "scrinium/api.ErrCorrupt", "scrinium/api.ErrFuel", "scrinium/api.ErrTwice", "errors.errorType"], plainKeys := false, apart := false, laid := [("math/bits.deBruijn32tab", laid_math_bits_deBruijn32tab), ("errors.errorType", laid_errors_errorType), ("scrinium/api.ErrForm", laid_scrinium_api_ErrForm), ("scrinium/api.ErrRange", laid_scrinium_api_ErrRange), ("scrinium/api.ErrFull", laid_scrinium_api_ErrFull), ("scrinium/api.ErrNone", laid_scrinium_api_ErrNone), ("scrinium/api.ErrCorrupt", laid_scrinium_api_ErrCorrupt), ("scrinium/api.ErrFuel", laid_scrinium_api_ErrFuel), ("scrinium/api.ErrState", laid_scrinium_api_ErrState), ("scrinium/api.ErrLong", laid_scrinium_api_ErrLong), ("scrinium/api.ErrTwice", laid_scrinium_api_ErrTwice)], narrowed := true }
def EnterLeavesUptoSaid : Prop := enterLeavesUptoRow.holds Tryz.pinned (OpenSpec.upto enterLeavesSpec)

end Rows
end Go.Proofs.YtlmekdfleciejaaGreatDoor
