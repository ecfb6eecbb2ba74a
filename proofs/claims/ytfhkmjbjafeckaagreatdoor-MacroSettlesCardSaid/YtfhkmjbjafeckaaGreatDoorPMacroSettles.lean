/- Any instance behind running on, and what it did, or why there is none. -/
import Derived.Test.YtfhkmjbjafeckaaGreatDoorCards
import Derived.Test.YtfhkmjbjafeckaaGreatDoorTie
import Derived.Test.YtfhkmjbjafeckaaGreatDoorPF2
namespace Go.Proofs.YtfhkmjbjafeckaaGreatDoor.lawSettles
open Go.ChangeShapes Go.WideShapes Go.ChangeAt Go.WideMaps Go.WideElems Go.RowKit Go.Joins
open Go.ChangeMaps (open_string)
theorem card:Rows.MacroSettlesCardSaid:=
 Claim7.holds_tied_plain_at .later [] _ _ _ _ said (fun _ h=>by cases h) (by kernel_rfl) (fun _ h=>by cases h) macroSettles_row_tie rfl ⟨rfl,rfl⟩ (by kernel_rfl) rfl plain goes
#print axioms card
end Go.Proofs.YtfhkmjbjafeckaaGreatDoor.lawSettles
