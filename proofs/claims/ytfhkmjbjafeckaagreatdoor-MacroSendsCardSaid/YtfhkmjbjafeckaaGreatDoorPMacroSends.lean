/- Any instance behind any event, and what it did, or why there is none. -/
import Derived.Test.YtfhkmjbjafeckaaGreatDoorCards
import Derived.Test.YtfhkmjbjafeckaaGreatDoorTie
import Derived.Test.YtfhkmjbjafeckaaGreatDoorPF1
namespace Go.Proofs.YtfhkmjbjafeckaaGreatDoor.lawSends
open Go.ChangeShapes Go.WideShapes Go.ChangeAt Go.WideMaps Go.WideElems Go.RowKit Go.Joins
open Go.ChangeMaps (open_string)
theorem card:Rows.MacroSendsCardSaid:=
 Claim7.holds_tied_plain_at .later [] _ _ _ _ said (fun _ h=>by cases h) (by kernel_rfl) (fun _ h=>by cases h) macroSends_row_tie rfl ⟨rfl,rfl⟩ (by kernel_rfl) rfl plain goes
#print axioms card
end Go.Proofs.YtfhkmjbjafeckaaGreatDoor.lawSends
