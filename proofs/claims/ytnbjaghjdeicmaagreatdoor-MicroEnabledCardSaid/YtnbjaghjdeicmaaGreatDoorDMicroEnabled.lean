/- The transitions of any instance that are taken at any event, or at none, or why that can't be told; no two of them conflict. -/
import Derived.Test.YtnbjaghjdeicmaaGreatDoorCards
import Derived.Test.YtnbjaghjdeicmaaGreatDoorTie
import Derived.Lib.SmallJoins
import Derived.SevenTiedAt
import Derived.SizedLaws
import Derived.Test.YtnbjaghjdeicmaaGreatDoorDS
namespace Go.Proofs.YtnbjaghjdeicmaaGreatDoor.lawEnabled
open Go.ChangeShapes Go.WideShapes Go.ChangeAt Go.WideMaps Go.WideElems Go.RowKit Go.Joins
open Go.ChangeMaps (open_string)
theorem goes:false=Rows.microEnabledRow.goesBy Tryz.pinned.checked.prog:=by kernel_rfl
theorem card:Rows.MicroEnabledCardSaid:=
 Claim7.holds_tied_plain_at .later [] _ _ _ _ said (fun _ h=>by cases h) (by kernel_rfl) (fun _ h=>by cases h) microEnabled_row_tie rfl ⟨rfl,rfl⟩ (by kernel_rfl) rfl plain goes
#print axioms card
end Go.Proofs.YtnbjaghjdeicmaaGreatDoor.lawEnabled
