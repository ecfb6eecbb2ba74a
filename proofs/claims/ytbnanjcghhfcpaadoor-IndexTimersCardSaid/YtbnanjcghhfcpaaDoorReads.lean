/- What a text is as a key: index.Number, Name, Timer, Kind and the document's. -/
import Derived.Test.YtbnanjcghhfcpaaDoorRead
import Derived.Test.YtbnanjcghhfcpaaDoorText
import Derived.Test.YtbnanjcghhfcpaaDoorJoin
namespace Go.Proofs.YtbnanjcghhfcpaaDoor
open Go.RowKit

def hd (l : List UInt8) : UInt8 := l.headD 0
def numOK (l : List UInt8) : Bool := decide (l.length = 5) && (hd l == 99 || hd l == 105) && numberB (valB (l.drop 1))
def numOf (l : List UInt8) : Nat := if numOK l then valB (l.drop 1) else 0
def nameOK (l : List UInt8) : Bool := decide (l.length ≤ 32) && hd l == 110 && nameB (l.drop 1)
def nameOf (l : List UInt8) : List UInt8 := if nameOK l then l.drop 1 else []
def tA (l : List UInt8) : Nat := valB ((l.drop 1).take 6)
def tI (l : List UInt8) : Nat := valB ((l.drop 7).take 4)
def tP (l : List UInt8) : Nat := valB (l.drop 11)
def timOK (l : List UInt8) : Bool := decide (l.length = 12) && hd l == 116 && clockB (tA l) && numberB (tI l) && decide (tP l < 8)
def kindOK (l : List UInt8) : Bool := l == [109] || numOK l || nameOK l || timOK l
def kindOf (l : List UInt8) : Nat := if kindOK l then (hd l).toNat else 0

/-- What the walk knows of a text that is not empty. -/
structure Txt (P : Program) (ts : TypeId) (l : List UInt8) (c : UInt8) : Prop where
  len : l.length ≤ 9223372036854775807
  pos : 0 < l.length
  head : hd l = c
  at0 : (ByteArray.mk l.toArray)[0]'(by simpa [ByteArray.size] using pos) = c
  take1 : ∀ W : World, (Instr.slice ts (.string ⟨l.toArray⟩) none (some (.int .i64 1)) none).run P W = .ok (.string ⟨#[c]⟩) W
  drop1 : ∀ W : World, (Instr.slice ts (.string ⟨l.toArray⟩) (some (.int .i64 1)) none none).run P W = .ok (.string ⟨(l.drop 1).toArray⟩) W

theorem Txt.of {P : Program} {ts : TypeId} (h : P.underlying ts = some .string) (l : List UInt8) (hl : l.length ≤ 9223372036854775807) (hne : l ≠ []) : Txt P ts l (hd l) := by
  cases l with
  | nil => exact absurd rfl hne
  | cons c r =>
    refine ⟨hl, by simp, rfl, rfl, fun W => ?_, fun W => ?_⟩
    · have := run_upto (P := P) h (c :: r) 1 (by decide) (by simp; omega) W
      exact this
    · have := run_from (P := P) h (c :: r) 1 (by decide) (by simp; omega) W
      exact this

theorem numOK_no5 (l : List UInt8) (h : ¬ l.length = 5) : numOK l = false := by simp [numOK, h]
theorem numOK_5 (l : List UInt8) (h : l.length = 5) (c : UInt8) (hc : hd l = c) : numOK l = (!((c.toNat : Int) != 99 && (c.toNat : Int) != 105) && numberB (valB (l.drop 1))) := by
  have e : ∀ k : UInt8, (c == k) = !((c.toNat : Int) != k.toNat) := fun k => by
    rw [Bool.eq_iff_iff]
    simp [← UInt8.toNat_inj]
    omega
  simp only [numOK, h, hc, decide_true, Bool.true_and, e, ← Bool.not_and]
  rfl

theorem u8_eq (c k : UInt8) : (c == k) = !((c.toNat : Int) != k.toNat) := by
  rw [Bool.eq_iff_iff]
  simp [← UInt8.toNat_inj]
  omega
theorem u8_prop (c k : UInt8) : ((c.toNat : Int) = k.toNat) = (c = k) := by
  rw [eq_iff_iff, ← UInt8.toNat_inj]
  omega

/-- The document's NameKey: the key, the code. -/
def nkCode (r : List UInt8) : Nat := if nameB r then (if r.length ≤ 31 then 0 else 8) else 1
def nkKey (r : List UInt8) : List UInt8 := if nkCode r = 0 then 110 :: r else []
end Go.Proofs.YtbnanjcghhfcpaaDoor
