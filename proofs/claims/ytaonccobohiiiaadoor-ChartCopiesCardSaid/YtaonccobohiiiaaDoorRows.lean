/-
  NARROWER THAN 'FOR EVERY INPUT', by the rows' own cells (each row's printed sentence says how): ChartCopies: laid · ChartNames: laid.
  DERIVED. THE GIVEN ROWS OF THIS SEAT. 2 by the template 'for every input the law returns true; each argument reads behind the call as it read before'; 0 by the template 'total and deterministic' (their statements: YtaonccobohiiiaaDoorTotals.lean).
  GIVEN WITH THE SEED: the statements are not yours to turn. If you find one false, say at which input.
  Laid BY PROGRAM, IN A SANDBOX (cutbox-rows.mjs): the forced cells as the released guide's own fill.sh prints them over the translation 184e0f94ef7858a8… (all of the seat's roots in one cut). By AI agents, Wed Nov 11 2026. No macro, syntax, notation, axiom, sorry.
-/
import Derived.Test.YtaonccobohiiiaaDoorChecked
import GoSem.Claim
import GoSem.ClaimJoined
import GoSem.ClaimMapViews
import Derived.JoinedTies
import Derived.KernelRfl
namespace Go.Proofs.YtaonccobohiiiaaDoor
/- THE CELL 'sum', in the pinned program and in every row, IS THE sha256 OF THE DUMP (.gsa) THAT YtaonccobohiiiaaDoorProg.lean LOADS. Nothing in Lean hashes anything: it is a label: what it is worth is what the hold of that sum in a sandbox is worth. -/
noncomputable def Tryd.pinned : Pinned := { name := "ytaonccobohiiiaadoor", sum := "184e0f94ef7858a83e6e7a84104bdc43ec84f97fec4de6457bc25ba3edafe4a7", checked := Tryd.checked }
namespace Rows
def none {H : Type} : Left H := { results := [], args := [] }

/- WHAT THE LISTED PACKAGE-LEVEL VARIABLES READ AS WHEN THE CALL BEGINS. Each datum BY PROGRAM (the guide's laid-datum.mjs) off the statement by which the dump's own 'gosem.cut.vars' lays the variable. In a bare row this is a premise. The card (YtaonccobohiiiaaDoorCards.lean) ties it to the program's text. -/
def laid_errors_errorType {H : Type} : DataW H := .iface "internal/reflectlite.rtype" (.agg [.ptr (.lit (.string [101, 114, 114, 111, 114]))])
def laid_scrinium_api_ErrForm {H : Type} : DataW H := .iface "*errors.errorString" (.ptr (.agg [.lit (.string [102, 111, 114, 109])]))
def laid_scrinium_api_ErrLong {H : Type} : DataW H := .iface "*errors.errorString" (.ptr (.agg [.lit (.string [108, 111, 110, 103])]))

/-- 'scriniumlaw24.ChartCopies': WHATEVER THE INPUT: true; the input reads as it did. -/
def chartCopiesSpec : ChangeSpec := { name := "chartCopies", fn := fun _ => fun
  | [d] => { results := [.lit (.bool true)], args := [d] }
  | _ => none }
def chartCopiesRow : OpenClaim := { program := "ytaonccobohiiiaadoor", sum := "184e0f94ef7858a83e6e7a84104bdc43ec84f97fec4de6457bc25ba3edafe4a7", func := "scrinium/scriniumlaw24.ChartCopies", spec := "chartCopies", inPlace := ["internal/reflectlite.ValueOf", "(internal/reflectlite.Value).Type", "(internal/reflectlite.Value).IsNil", "internal/reflectlite.TypeOf", "(internal/reflectlite.Value).Elem", "(internal/reflectlite.Value).Set"], unfollowed := true, recurses := true, named := ["scrinium/api.ErrLong", "scrinium/api.ErrForm", "errors.errorType"], apart := false, laid := [("errors.errorType", laid_errors_errorType), ("scrinium/api.ErrForm", laid_scrinium_api_ErrForm), ("scrinium/api.ErrLong", laid_scrinium_api_ErrLong)] }
def ChartCopiesSaid : Prop := chartCopiesRow.holds Tryd.pinned (OpenSpec.ofChange chartCopiesSpec)

/-- ITS FALSE NEIGHBOUR: 'it returns false'. Refute it at one input. -/
def chartCopiesWrong : ChangeSpec := { name := "chartCopies", fn := fun _ => fun
  | [d] => { results := [.lit (.bool false)], args := [d] }
  | _ => none }
def ChartCopiesWrongFalsely : Prop := chartCopiesRow.holds Tryd.pinned (OpenSpec.ofChange chartCopiesWrong)

/-- 'scriniumlaw24.ChartNames': WHATEVER THE INPUT: true; the input reads as it did. -/
def chartNamesSpec : ChangeSpec := { name := "chartNames", fn := fun _ => fun
  | [d] => { results := [.lit (.bool true)], args := [d] }
  | _ => none }
def chartNamesRow : OpenClaim := { program := "ytaonccobohiiiaadoor", sum := "184e0f94ef7858a83e6e7a84104bdc43ec84f97fec4de6457bc25ba3edafe4a7", func := "scrinium/scriniumlaw24.ChartNames", spec := "chartNames", inPlace := ["internal/reflectlite.ValueOf", "(internal/reflectlite.Value).Type", "(internal/reflectlite.Value).IsNil", "internal/reflectlite.TypeOf", "(internal/reflectlite.Value).Elem", "(internal/reflectlite.Value).Set"], unfollowed := true, recurses := true, named := ["scrinium/api.ErrLong", "scrinium/api.ErrForm", "errors.errorType"], apart := false, laid := [("errors.errorType", laid_errors_errorType), ("scrinium/api.ErrForm", laid_scrinium_api_ErrForm), ("scrinium/api.ErrLong", laid_scrinium_api_ErrLong)] }
def ChartNamesSaid : Prop := chartNamesRow.holds Tryd.pinned (OpenSpec.ofChange chartNamesSpec)

/-- ITS FALSE NEIGHBOUR: 'it returns false'. Refute it at one input. -/
def chartNamesWrong : ChangeSpec := { name := "chartNames", fn := fun _ => fun
  | [d] => { results := [.lit (.bool false)], args := [d] }
  | _ => none }
def ChartNamesWrongFalsely : Prop := chartNamesRow.holds Tryd.pinned (OpenSpec.ofChange chartNamesWrong)

/- THE SECOND FORM. 'bulk': how many values and letters a reading holds, each counted each time it is reached (what is shared counts as often as it is met; a slice's spare places count too). A statement '..UptoSaid' is the law's where the arguments, and the package variables that the reading takes, are together of bulk at most 1048576: NARROWER than '..Said'. Prove '..Said' where nothing that the law and all that it calls make is longer than what came in: it says more and counts as full. Else prove '..UptoSaid'. A law counts once. -/
mutual
def uptoBulk {H : Type} : DataW H → Nat
  | .lit (.string bytes) => bytes.length + 1
  | .lit _ => 1
  | .nil => 1
  | .ptr d => uptoBulk d + 1
  | .slice elems spare => uptoBulkAll elems + uptoBulkAll spare + 1
  | .agg parts => uptoBulkAll parts + 1
  | .iface _ d => uptoBulk d + 1
  | .map entries => uptoBulkEntries entries + 1
  | .held _ => 1
def uptoBulkAll {H : Type} : List (DataW H) → Nat
  | [] => 0
  | d :: r => uptoBulk d + uptoBulkAll r
def uptoBulkEntries {H : Type} : List (Lit × DataW H) → Nat
  | [] => 0
  | x :: r => uptoBulkEntry x + uptoBulkEntries r
def uptoBulkEntry {H : Type} : Lit × DataW H → Nat
  | (.string bytes, d) => bytes.length + uptoBulk d + 1
  | (_, d) => uptoBulk d + 1
 end
def uptoSmall : (H : Type) → List (DataW H) → Bool := fun _ ds => decide (uptoBulkAll ds ≤ 1048576)
def OpenSpec.upto (s : _root_.Go.ChangeSpec) : _root_.Go.OpenSpec := { _root_.Go.OpenSpec.ofChange s with cond := some uptoSmall }

/-- 'scriniumlaw24.ChartCopies', WHERE WHAT IT READS IS OF BULK AT MOST 1048576: true; the input reads as it did. -/
def chartCopiesUptoRow : OpenClaim := { program := "ytaonccobohiiiaadoor", sum := "184e0f94ef7858a83e6e7a84104bdc43ec84f97fec4de6457bc25ba3edafe4a7", func := "scrinium/scriniumlaw24.ChartCopies", spec := "chartCopies", inPlace := ["internal/reflectlite.ValueOf", "(internal/reflectlite.Value).Type", "(internal/reflectlite.Value).IsNil", "internal/reflectlite.TypeOf", "(internal/reflectlite.Value).Elem", "(internal/reflectlite.Value).Set"], unfollowed := true, recurses := true, named := ["scrinium/api.ErrLong", "scrinium/api.ErrForm", "errors.errorType"], apart := false, laid := [("errors.errorType", laid_errors_errorType), ("scrinium/api.ErrForm", laid_scrinium_api_ErrForm), ("scrinium/api.ErrLong", laid_scrinium_api_ErrLong)], narrowed := true }
def ChartCopiesUptoSaid : Prop := chartCopiesUptoRow.holds Tryd.pinned (OpenSpec.upto chartCopiesSpec)

/-- 'scriniumlaw24.ChartNames', WHERE WHAT IT READS IS OF BULK AT MOST 1048576: true; the input reads as it did. -/
def chartNamesUptoRow : OpenClaim := { program := "ytaonccobohiiiaadoor", sum := "184e0f94ef7858a83e6e7a84104bdc43ec84f97fec4de6457bc25ba3edafe4a7", func := "scrinium/scriniumlaw24.ChartNames", spec := "chartNames", inPlace := ["internal/reflectlite.ValueOf", "(internal/reflectlite.Value).Type", "(internal/reflectlite.Value).IsNil", "internal/reflectlite.TypeOf", "(internal/reflectlite.Value).Elem", "(internal/reflectlite.Value).Set"], unfollowed := true, recurses := true, named := ["scrinium/api.ErrLong", "scrinium/api.ErrForm", "errors.errorType"], apart := false, laid := [("errors.errorType", laid_errors_errorType), ("scrinium/api.ErrForm", laid_scrinium_api_ErrForm), ("scrinium/api.ErrLong", laid_scrinium_api_ErrLong)], narrowed := true }
def ChartNamesUptoSaid : Prop := chartNamesUptoRow.holds Tryd.pinned (OpenSpec.upto chartNamesSpec)

end Rows
end Go.Proofs.YtaonccobohiiiaaDoor
