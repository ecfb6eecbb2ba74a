/- What runs on to its end is right, and over or such that nothing is enabled with the number that came last (asked where no event came in between). -/
import Derived.Test.YtbjldjekgepopaaGreatDoorCards
import Derived.Test.YtbjldjekgepopaaGreatDoorTie
import Derived.Test.YtbjldjekgepopaaGreatDoorTF2
namespace Go.Proofs.YtbjldjekgepopaaGreatDoor.lawStable
open Go.ChangeShapes Go.WideShapes Go.ChangeAt Go.WideMaps Go.WideElems Go.RowKit Go.Joins
open Go.ChangeMaps (open_string)
theorem card:Rows.MacroStableCardSaid:=
 Claim7.holds_tied_plain_at .later [] _ _ _ _ said (fun _ h=>by cases h) (by kernel_rfl) (fun _ h=>by cases h) macroStable_row_tie rfl ⟨rfl,rfl⟩ (by kernel_rfl) rfl plain goes
#print axioms card
end Go.Proofs.YtbjldjekgepopaaGreatDoor.lawStable
