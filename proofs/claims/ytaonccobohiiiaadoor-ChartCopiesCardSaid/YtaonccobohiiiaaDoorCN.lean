/- Contracts of scriniumref21.Letter, Digit, Name, of token.Name: by the walk without memory. -/
import Derived.Test.YtaonccobohiiiaaDoorCO
import Derived.Test.YtaonccobohiiiaaDoorEv
import Derived.Test.YtaonccobohiiiaaDoorSt
import Derived.Test.YtaonccobohiiiaaDoorText
import Derived.Test.YtaonccobohiiiaaDoorBr
set_option linter.unusedSimpArgs false
namespace Go.Proofs.YtaonccobohiiiaaDoor
open Go.RowKit
set_option maxRecDepth 100000
set_option maxHeartbeats 1000000
theorem all_take_snoc {l : List UInt8} {p : UInt8 → Bool} {i : Nat} (h : (l.take i).all p = true) (hi : i < l.length) (hp : p l[i] = true) : (l.take (i + 1)).all p = true := by
  rw [List.take_succ_eq_append_getElem hi, List.all_append, h]
  simp [hp]
theorem all_no {l : List UInt8} {p : UInt8 → Bool} {i : Nat} (hi : i < l.length) (hp : p l[i] = false) : l.all p = false := by
  rw [Bool.eq_false_iff]
  intro h
  rw [List.all_eq_true] at h
  rw [h _ (List.getElem_mem hi)] at hp
  cases hp
end Go.Proofs.YtaonccobohiiiaaDoor
