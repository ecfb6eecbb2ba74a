/- An instance of any chart that begins: it is right; or why there is none. -/
import Derived.Test.YtbpmkofnfgdegaaGreatDoorCards
import Derived.Test.YtbpmkofnfgdegaaGreatDoorTie
import Derived.Lib.SmallJoins
import Derived.SevenTiedAt
import Derived.SizedLaws
import Derived.Test.YtbpmkofnfgdegaaGreatDoorMS
namespace Go.Proofs.YtbpmkofnfgdegaaGreatDoor.lawFirst
open Go.ChangeShapes Go.WideShapes Go.ChangeAt Go.WideMaps Go.WideElems Go.RowKit Go.Joins
open Go.ChangeMaps (open_string)
theorem card:Rows.MicroFirstCardSaid:=
 Claim7.holds_tied_plain_at .later [] _ _ _ _ said (fun _ h=>by cases h) (by kernel_rfl) (fun _ h=>by cases h) microFirst_row_tie rfl ⟨rfl,rfl⟩ (by kernel_rfl) rfl plain goes
#print axioms card
end Go.Proofs.YtbpmkofnfgdegaaGreatDoor.lawFirst
