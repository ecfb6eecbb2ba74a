/- Any instance behind a step with those that are enabled: it is right. -/
import Derived.Test.YtdpjgflalmnkdaaGreatDoorCards
import Derived.Test.YtdpjgflalmnkdaaGreatDoorTie
import Derived.Test.YtdpjgflalmnkdaaGreatDoorTS
namespace Go.Proofs.YtdpjgflalmnkdaaGreatDoor.lawTakes
open Go.ChangeShapes Go.WideShapes Go.ChangeAt Go.WideMaps Go.WideElems Go.RowKit Go.Joins
open Go.ChangeMaps (open_string)
theorem card:Rows.MicroTakesCardSaid:=
 Claim7.holds_tied_plain_at .later [] _ _ _ _ said (fun _ h=>by cases h) (by kernel_rfl) (fun _ h=>by cases h) microTakes_row_tie rfl ⟨rfl,rfl⟩ (by kernel_rfl) rfl plain goes
#print axioms card
end Go.Proofs.YtdpjgflalmnkdaaGreatDoor.lawTakes
