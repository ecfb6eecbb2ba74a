/- An event that no transition has changes a stable instance not. -/
import Derived.Test.YtknkhdgfhbogdaaGreatDoorCards
import Derived.Test.YtknkhdgfhbogdaaGreatDoorTie
import Derived.Test.YtknkhdgfhbogdaaGreatDoorPF1
namespace Go.Proofs.YtknkhdgfhbogdaaGreatDoor.lawQuiet
open Go.ChangeShapes Go.WideShapes Go.ChangeAt Go.WideMaps Go.WideElems Go.RowKit Go.Joins
open Go.ChangeMaps (open_string)
theorem card:Rows.MacroQuietCardSaid:=
 Claim7.holds_tied_plain_at .later [] _ _ _ _ said (fun _ h=>by cases h) (by kernel_rfl) (fun _ h=>by cases h) macroQuiet_row_tie rfl ⟨rfl,rfl⟩ (by kernel_rfl) rfl plain goes
#print axioms card
end Go.Proofs.YtknkhdgfhbogdaaGreatDoor.lawQuiet
