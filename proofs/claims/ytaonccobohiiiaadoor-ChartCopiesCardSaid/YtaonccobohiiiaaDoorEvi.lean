/- The facts of evaluation, of calls that turn rows too. No program is named here. -/
import Derived.Test.YtaonccobohiiiaaDoorEv
import Derived.Test.YtaonccobohiiiaaDoorVI
namespace Go.Proofs.YtaonccobohiiiaaDoor
open Go.RowKit
attribute [go_sem] nilRd ev_nilCheck tmpsAre resI resIs cellRd HoldI toRL toKL gin gout nout vin grownR lay AV.ren AV.ren.renL Row.ren headR Option.bind_some Option.bind_none Option.isSome_some Option.isSome_none Option.getD_some Bool.true_eq_false PreOk PostOk EscOk wrs wes List.cons.injEq Prod.mk.injEq forall_const
end Go.Proofs.YtaonccobohiiiaaDoor
