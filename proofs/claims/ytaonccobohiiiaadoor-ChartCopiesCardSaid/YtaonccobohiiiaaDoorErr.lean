/- Errors: chains of Faults that end in a sentinel; errors.Is, fault.Code over them. -/
import Derived.Test.YtaonccobohiiiaaDoorProg
import Derived.Test.YtaonccobohiiiaaDoorKit
import Derived.LaidEql
import Derived.Stop.Asserts
namespace Go.Proofs.YtaonccobohiiiaaDoor
open Go.RowKit Go.Stop

/-- Behind the address a lies a plain block. -/
def Lies (w : World) (a : Addr) : Prop := ∃ (ca : Array Value) (ta : TypeId), w.heap[a.block]? = some (.cells ca ta (0, 0))
/-- The variable g holds the sentinel at a. -/
def Sent (w : World) (g : Nat) (a : Addr) : Prop := w.cell? ⟨g, 0, none⟩ = some (.iface 143 (.pointer (some a))) ∧ Lies w a
/-- E is a chain of n Faults around the sentinel at a. -/
def ErrAt (w : World) (a : Addr) : Nat → Value → Prop
  | 0, E => E = .iface 143 (.pointer (some a)) ∧ Lies w a
  | n + 1, E => ∃ (pb po : Nat) (E' : Value), E = .iface 70 (.pointer (some ⟨pb, po, none⟩)) ∧ w.cell? ⟨pb, po + 2, none⟩ = some E' ∧ ErrAt w a n E'

theorem Lies.lt {w : World} {a : Addr} (h : Lies w a) : a.block < w.heap.size := by
  obtain ⟨ca, ta, h⟩ := h
  by_cases hl : a.block < w.heap.size
  · exact hl
  · rw [Array.getElem?_eq_none (by omega)] at h
    cases h
theorem Lies.below {w w' : World} {a : Addr} (h : Lies w a) (hb : Below w.heap.size w w') : Lies w' a := by
  have := h.lt
  obtain ⟨ca, ta, h⟩ := h
  exact ⟨ca, ta, (hb.block _ this).trans h⟩
theorem cell_lt {w : World} {b o : Nat} {v : Value} (h : w.cell? ⟨b, o, none⟩ = some v) : b < w.heap.size := World.block_lt_of_cell? w ⟨b, o, none⟩ h
theorem cell_below {w w' : World} {b o : Nat} {v : Value} (h : w.cell? ⟨b, o, none⟩ = some v) (hb : Below w.heap.size w w') : w'.cell? ⟨b, o, none⟩ = some v :=
  (hb.cell (p := ⟨b, o, none⟩) (cell_lt h)).trans h
theorem Sent.below {w w' : World} {g : Nat} {a : Addr} (h : Sent w g a) (hb : Below w.heap.size w w') : Sent w' g a := ⟨cell_below h.1 hb, h.2.below hb⟩
theorem ErrAt.below {w w' : World} {a : Addr} (hb : Below w.heap.size w w') : ∀ {n : Nat} {E : Value}, ErrAt w a n E → ErrAt w' a n E
  | 0, _, h => ⟨h.1, h.2.below hb⟩
  | _ + 1, _, ⟨pb, po, E', h1, h2, h3⟩ => ⟨pb, po, E', h1, cell_below h2 hb, ErrAt.below hb h3⟩
theorem ErrAt.lies {w : World} {a : Addr} : ∀ {n : Nat} {E : Value}, ErrAt w a n E → Lies w a
  | 0, _, h => h.2
  | _ + 1, _, ⟨_, _, _, _, _, h3⟩ => ErrAt.lies h3
theorem ErrAt.form {w : World} {a : Addr} {n : Nat} {E : Value} (h : ErrAt w a n E) : ∃ t v, E = .iface t v := by
  cases n with
  | zero => exact ⟨_, _, h.1⟩
  | succ n => exact ⟨_, _, h.choose_spec.choose_spec.choose_spec.1⟩
/-- A new Fault around a sentinel that a variable holds. -/
theorem ErrAt.new {w : World} {g : Nat} {a : Addr} (h : Sent w g a) (s : ByteArray) (p : Int) :
    ErrAt (w.alloc (.cells #[.string s, .int .i64 p, .iface 143 (.pointer (some a))] 74)) a 1 (.iface 70 (.pointer (some ⟨w.heap.size, 0, none⟩))) :=
  ⟨_, 0, _, rfl, (Whole.new w 74 _).cell 2, rfl, h.2.below ((Below.refl _ _).alloc (Nat.le_refl _) _)⟩
theorem ErrAt.wrap {w : World} {a : Addr} {n : Nat} {E : Value} (h : ErrAt w a n E) (s : ByteArray) (p : Int) :
    ErrAt (w.alloc (.cells #[.string s, .int .i64 p, E] 74)) a (n + 1) (.iface 70 (.pointer (some ⟨w.heap.size, 0, none⟩))) :=
  ⟨_, 0, _, rfl, (Whole.new w 74 _).cell 2, h.below ((Below.refl _ _).alloc (Nat.le_refl _) _)⟩

/-- A store elsewhere leaves an error of one link as it was. -/
theorem ErrAt.stored {w : World} {a : Addr} {pb : Nat} {E : Value} (h : ErrAt w a 1 E) (hE : E = .iface 70 (.pointer (some ⟨pb, 0, none⟩))) {p : Addr} (hp : p.block ≠ pb) (hpa : p.block ≠ a.block) (u : Value) : ErrAt (w.setCell p u) a 1 E := by
  obtain ⟨pb', po', E', e, hc, e', ca, ta, hl⟩ := h
  rw [hE] at e
  cases e
  refine ⟨pb, 0, E', hE, ?_, e', ca, ta, (Below.heap_setCell w p u _ (Ne.symm hpa)).trans hl⟩
  rw [World.cell?_setCell_other w p ⟨pb, 0 + 2, none⟩ u (fun e => hp (by rw [e]))]
  exact hc

/-! Closed facts -/
theorem Tryd.callTypeOf (v : Value) (w : World) : (callFunc 64 #[.iface 143 v]).run Tryd.prog w = .ok (.value (.iface 105 (.agg #[.pointer (some ⟨3, 143, none⟩)]))) w := by kernel_rfl
theorem Tryd.callComparable (w : World) : (callFunc 113 #[.agg #[.pointer (some ⟨3, 143, none⟩)]]).run Tryd.prog w = .ok (.value (.bool true)) w := by kernel_rfl
theorem Tryd.isComp : (Tryd.prog.info? 143).map (·.comparable) = some true := by kernel_rfl
theorem Tryd.isSize : (Tryd.prog.info? 164).map (·.size) = some 1 := by kernel_rfl
theorem Tryd.noUnwrapE (v : Value) (xT : TypeId) (w : World) : (Instr.typeAssert (.iface 143 v) xT 113 true).run Tryd.prog w = .ok (.tuple #[.nilIface, .bool false]) w := run_typeAssert_lacksB Tryd.underlying113 (by kernel_rfl) (by kernel_rfl) v xT w
theorem Tryd.noUnwrapsE (v : Value) (xT : TypeId) (w : World) : (Instr.typeAssert (.iface 143 v) xT 115 true).run Tryd.prog w = .ok (.tuple #[.nilIface, .bool false]) w := run_typeAssert_lacksB Tryd.underlying115 (by kernel_rfl) (by kernel_rfl) v xT w
theorem Tryd.hasUnwrapW (v : Value) (xT : TypeId) (w : World) : (Instr.typeAssert (.iface 70 v) xT 113 true).run Tryd.prog w = .ok (.tuple #[.iface 70 v, .bool true]) w := run_typeAssert_hasB Tryd.underlying113 (by kernel_rfl) v xT w

end Go.Proofs.YtaonccobohiiiaaDoor
