/- What is beneath no domain of the transitions stays; without transitions a step changes nothing. -/
import Derived.Test.YtbpmkofnfgdegaaGreatDoorCards
import Derived.Test.YtbpmkofnfgdegaaGreatDoorTie
import Derived.Lib.SmallJoins
import Derived.SevenTiedAt
import Derived.SizedLaws
import Derived.Test.YtbpmkofnfgdegaaGreatDoorQS
namespace Go.Proofs.YtbpmkofnfgdegaaGreatDoor.lawStays
open Go.ChangeShapes Go.WideShapes Go.ChangeAt Go.WideMaps Go.WideElems Go.RowKit Go.Joins
open Go.ChangeMaps (open_string)
theorem card:Rows.MicroStaysCardSaid:=
 Claim7.holds_tied_plain_at .later [] _ _ _ _ said (fun _ h=>by cases h) (by kernel_rfl) (fun _ h=>by cases h) microStays_row_tie rfl ⟨rfl,rfl⟩ (by kernel_rfl) rfl plain goes
#print axioms card
end Go.Proofs.YtbpmkofnfgdegaaGreatDoor.lawStays
