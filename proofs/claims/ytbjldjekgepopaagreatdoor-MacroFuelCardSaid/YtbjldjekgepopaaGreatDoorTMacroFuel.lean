/- More fuel changes nothing, where it was enough; less than the steps is not enough. -/
import Derived.Test.YtbjldjekgepopaaGreatDoorCards
import Derived.Test.YtbjldjekgepopaaGreatDoorTie
import Derived.Test.YtbjldjekgepopaaGreatDoorTF1
namespace Go.Proofs.YtbjldjekgepopaaGreatDoor.lawFuel
open Go.ChangeShapes Go.WideShapes Go.ChangeAt Go.WideMaps Go.WideElems Go.RowKit Go.Joins
open Go.ChangeMaps (open_string)
theorem card:Rows.MacroFuelCardSaid:=
 Claim7.holds_tied_plain_at .later [] _ _ _ _ said (fun _ h=>by cases h) (by kernel_rfl) (fun _ h=>by cases h) macroFuel_row_tie rfl ⟨rfl,rfl⟩ (by kernel_rfl) rfl plain goes
#print axioms card
end Go.Proofs.YtbjldjekgepopaaGreatDoor.lawFuel
