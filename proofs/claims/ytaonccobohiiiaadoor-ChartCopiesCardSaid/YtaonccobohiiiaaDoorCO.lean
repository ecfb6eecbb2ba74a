/- Short names for values of the walk without memory. -/
import Derived.Test.YtaonccobohiiiaaDoorTy
import Derived.Test.YtaonccobohiiiaaDoorVD
namespace Go.Proofs.YtaonccobohiiiaaDoor
open Go.RowKit

abbrev I (n : Int) : AV := .lit (.int .i64 n)
abbrev U (n : Int) : AV := .lit (.int .u64 n)
abbrev B (b : Bool) : AV := .lit (.bool b)
abbrev Sg (s : List UInt8) : AV := .lit (.string ⟨s.toArray⟩)
abbrev Bs (l : List UInt8) : AV := .seq 1 (l.map bAV)
abbrev nilS : AV := .lit (.slice none 0 0)
theorem natbeq (a b : Nat) : ((a : Int) == (b : Int)) = (a == b) := by rw [Bool.eq_iff_iff]; simp; omega
theorem natbeq0 (a : Nat) : ((a : Int) == 0) = (a == 0) := natbeq a 0
end Go.Proofs.YtaonccobohiiiaaDoor
