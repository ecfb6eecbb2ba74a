/- What any instance of a chart has become fits, when it is written and read. -/
import Derived.Test.YtfcdkaolcdglmaaGreatDoorCards
import Derived.Test.YtfcdkaolcdglmaaGreatDoorTie
import Derived.Test.YtfcdkaolcdglmaaGreatDoorPF1
namespace Go.Proofs.YtfcdkaolcdglmaaGreatDoor.lawLives
open Go.ChangeShapes Go.WideShapes Go.ChangeAt Go.WideMaps Go.WideElems Go.RowKit Go.Joins
open Go.ChangeMaps (open_string)
theorem card:Rows.RecordLivesCardSaid:=
 Claim7.holds_tied_plain_at .later [] _ _ _ _ said (fun _ h=>by cases h) (by kernel_rfl) (fun _ h=>by cases h) recordLives_row_tie rfl ⟨rfl,rfl⟩ (by kernel_rfl) rfl plain goes
#print axioms card
end Go.Proofs.YtfcdkaolcdglmaaGreatDoor.lawLives
