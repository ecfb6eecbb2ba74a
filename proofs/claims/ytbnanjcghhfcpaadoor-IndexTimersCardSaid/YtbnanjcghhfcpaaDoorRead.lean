/- index.read, the document's small. -/
import Derived.Test.YtbnanjcghhfcpaaDoorNums
namespace Go.Proofs.YtbnanjcghhfcpaaDoor
open Go.RowKit

end Go.Proofs.YtbnanjcghhfcpaaDoor
