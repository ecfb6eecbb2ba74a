/- The document's Right, Take, Fits, Put. -/
import Derived.Test.YtbnanjcghhfcpaaDoorTake
namespace Go.Proofs.YtbnanjcghhfcpaaDoor
open Go.RowKit

theorem valLE_take (x : List UInt8) (k : Nat) (h : k < x.length) : valLE (x.take (k + 1)) = valLE (x.take k) + x[k].toNat * 256 ^ k := by
  rw [List.take_succ_eq_append_getElem h, valLE_snoc, List.length_take, Nat.min_eq_left (by omega)]

end Go.Proofs.YtbnanjcghhfcpaaDoor
