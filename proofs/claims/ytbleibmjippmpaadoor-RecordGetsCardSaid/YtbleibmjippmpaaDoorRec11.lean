/- Words for what the reader makes: rows of its own, kept while other blocks turn. -/
import Derived.Test.YtbleibmjippmpaaDoorRec10
namespace Go.Proofs.YtbleibmjippmpaaDoor
open Go.RowKit

/-- Blocks of element type e stay as they are. -/
def KeepT (e : TypeId) (w w' : World) : Prop := ∀ (i : Nat) (cs : Array Value) (fz : Nat × Nat), w.heap[i]? = some (Obj.cells cs e fz) → w'.heap[i]? = some (Obj.cells cs e fz)
theorem heap_lt {w : World} {i : Nat} {o : Obj} (h : w.heap[i]? = some o) : i < w.heap.size := by
  by_cases hl : i < w.heap.size
  · exact hl
  · rw [Array.getElem?_eq_none (by omega)] at h
    cases h
theorem KeepT.trans {e : TypeId} {a b c : World} (h : KeepT e a b) (k : KeepT e b c) : KeepT e a c := fun i cs fz hh => k i cs fz (h i cs fz hh)
theorem KeepT.refl (e : TypeId) (w : World) : KeepT e w w := fun _ _ _ h => h
theorem KeepT.of_below {e : TypeId} {w w' : World} (hb : Below w.heap.size w w') : KeepT e w w' := fun i _ _ h => (hb.block i (heap_lt h)).trans h
theorem KeepT.of_only {e t : TypeId} {w w' : World} {g : Nat} {cs : Array Value} (hg : w.grownBy w' (some g)) (hw : Whole w g t cs) (hne : t ≠ e) : KeepT e w w' := fun i cs' fz h => by
  refine (hg.block i (heap_lt h) ?_).trans h
  intro e'
  cases e'
  rw [hw] at h
  cases h
  exact hne rfl
theorem KeepT.of_row {e t : TypeId} {w w' : World} {base size n : Nat} {v : Value} {xs : List Value} (hg : w.grownBy w' v.ownBlock) (ho : w.ownsRow base t size v n xs) (hne : t ≠ e) : KeepT e w w' := fun i cs' fz h => by
  refine (hg.block i (heap_lt h) ?_).trans h
  intro e'
  rcases ho.2 with ⟨rfl, _⟩ | ⟨k, cap, cur, rfl, _, hh, _⟩
  · simp [Value.ownBlock] at e'
  · simp [Value.ownBlock] at e'
    subst e'
    rw [hh] at h
    cases h
    exact hne rfl
theorem KeepT.own {e : TypeId} {w w' : World} {base size n : Nat} {v : Value} {xs : List Value} (h : KeepT e w w') (ho : w.ownsRow base e size v n xs) : w'.ownsRow base e size v n xs := by
  refine ⟨ho.1, ?_⟩
  rcases ho.2 with h1 | ⟨k, cap, cur, h1, h2, h3, h4⟩
  · exact .inl h1
  · exact .inr ⟨k, cap, cur, h1, h2, h _ _ _ h3, h4⟩
theorem own_only {w w' : World} {base size n g : Nat} {e : TypeId} {v : Value} {xs : List Value} (ho : w.ownsRow base e size v n xs) (hg : w.grownBy w' (some g)) (hne : g < base) : w'.ownsRow base e size v n xs :=
  ho.kept hg (by
    cases hv : v.ownBlock with
    | none => exact .inl rfl
    | some k =>
      right
      intro e'
      cases e'
      have := (ho.lt _ hv).1
      omega)

/-- A memory's cells, its states in a row of the call's own. -/
def memO (w : World) (base : Nat) (cs : List Value) (m : Int × List Int) : Prop := ∃ v, cs = [.int .i64 m.1, v] ∧ w.ownsRow base 3 1 v m.2.length (iv m.2)
theorem rows_moved {α : Type} {size : Nat} {R R' : List Value → α → Prop} {xs : List Value} {l : List α} (h : RowsOf size R xs l) (hR : ∀ cs a, a ∈ l → R cs a → R' cs a) : RowsOf size R' xs l := ⟨h.1, fun i hi => hR _ _ (List.getElem_mem _) (h.2 i hi)⟩
theorem rows_nil {α : Type} (size : Nat) (R : List Value → α → Prop) : RowsOf size R [] [] := ⟨by simp, fun i hi => by simp at hi⟩
theorem rows_snoc {α : Type} {size : Nat} {R : List Value → α → Prop} {xs : List Value} {l : List α} (h : RowsOf size R xs l) {cs : List Value} {a : α} (hc : cs.length = size) (ha : R cs a) : RowsOf size R (xs ++ cs) (l ++ [a]) := by
  refine ⟨by simp [h.1, hc, Nat.add_mul], fun i hi => ?_⟩
  by_cases e : i < l.length
  · rw [List.getElem_append_left e]
    have h2 : (i + 1) * size ≤ l.length * size := Nat.mul_le_mul_right _ (by omega)
    rw [Nat.add_mul, Nat.one_mul] at h2
    rw [List.drop_append_of_le_length (by rw [h.1]; omega), List.take_append_of_le_length (by rw [List.length_drop, h.1]; omega)]
    exact h.2 i e
  · have : i = l.length := by simp at hi; omega
    subst this
    rw [← h.1, List.drop_left]
    simp [← hc]
    exact ha

/-- The four slices of a record in memory of the call's own. -/
structure OwnIn (w : World) (base : Nat) (va vv vm vt : Value) (r : Rc) : Prop where
  act : w.ownsRow base 3 1 va r.active.length (iv r.active)
  vars : w.ownsRow base 3 1 vv r.vars.length (iv r.vars)
  mem : ∃ xs, w.ownsRow base 81 2 vm r.mem.length xs ∧ RowsOf 2 (memO w base) xs r.mem
  tms : ∃ xs, w.ownsRow base 131 2 vt r.timers.length xs ∧ RowsOf 2 tmR xs r.timers
theorem own_list {α : Type} {w : World} {base size n : Nat} {e : TypeId} {v : Value} {xs : List Value} {R : List Value → α → Prop} {l : List α} (ho : w.ownsRow base e size v n xs) (hn : n = l.length) (hr : RowsOf size R xs l) : ListAt w w.heap.size size R v l := by
  subst hn
  obtain ⟨A, c, rfl, hrd⟩ := own_slice ho
  exact ⟨A, c, xs, rfl, (own_cap ho).1, Nat.le_trans (own_cap ho).1 (own_max ho), hrd, hr⟩
theorem OwnIn.inAt {w : World} {base : Nat} {va vv vm vt : Value} {r : Rc} (h : OwnIn w base va vv vm vt r) : InAt w w.heap.size va vv vm vt r := by
  obtain ⟨xm, hm1, hm2⟩ := h.mem
  obtain ⟨xt, ht1, ht2⟩ := h.tms
  refine ⟨own_list h.act rfl (rows_one _ _), own_list h.vars rfl (rows_one _ _), own_list hm1 rfl (rows_moved hm2 fun cs m _ hh => ?_), own_list ht1 rfl ht2⟩
  obtain ⟨v, e, ho⟩ := hh
  exact ⟨v, e, own_list ho rfl (rows_one _ _)⟩
/-- Where blocks from base on stay as they are, so does what lies in them. -/
theorem own_stay {w w' : World} {base size n : Nat} {e : TypeId} {v : Value} {xs : List Value} (ho : w.ownsRow base e size v n xs) (hk : ∀ b, base ≤ b → b < w.heap.size → w'.heap[b]? = w.heap[b]?) : w'.ownsRow base e size v n xs := by
  refine ⟨ho.1, ?_⟩
  rcases ho.2 with h1 | ⟨k, cap, cur, h1, h2, h3, h4⟩
  · exact .inl h1
  · exact .inr ⟨k, cap, cur, h1, h2, (hk k h2 (heap_lt h3)).trans h3, h4⟩
theorem OwnIn.stay {w w' : World} {base : Nat} {va vv vm vt : Value} {r : Rc} (h : OwnIn w base va vv vm vt r) (hk : ∀ b, base ≤ b → b < w.heap.size → w'.heap[b]? = w.heap[b]?) : OwnIn w' base va vv vm vt r := by
  obtain ⟨xm, hm1, hm2⟩ := h.mem
  obtain ⟨xt, ht1, ht2⟩ := h.tms
  refine ⟨own_stay h.act hk, own_stay h.vars hk, ⟨xm, own_stay hm1 hk, rows_moved hm2 fun cs m _ hh => ?_⟩, ⟨xt, own_stay ht1 hk, ht2⟩⟩
  obtain ⟨v, e, ho⟩ := hh
  exact ⟨v, e, own_stay ho hk⟩
theorem OwnIn.lower {w : World} {base base' : Nat} {va vv vm vt : Value} {r : Rc} (h : OwnIn w base va vv vm vt r) (hb : base' ≤ base) : OwnIn w base' va vv vm vt r := by
  obtain ⟨xm, hm1, hm2⟩ := h.mem
  obtain ⟨xt, ht1, ht2⟩ := h.tms
  refine ⟨own_lower h.act hb, own_lower h.vars hb, ⟨xm, own_lower hm1 hb, rows_moved hm2 fun cs m _ hh => ?_⟩, ⟨xt, own_lower ht1 hb, ht2⟩⟩
  obtain ⟨v, e, ho⟩ := hh
  exact ⟨v, e, own_lower ho hb⟩

theorem step_append_reads {P : Program} {w : World} {ops : Array Oper} {o : Oper} {a : Act} {K : Act → World → Prop} {Q : Exit → Act → World → Prop} {E : Prop} (hgd : o.guard = none) (s x : Operand) (t : TypeId)
    (ho : o.op = .call { callee := .builtin .append, args := #[s, x], argTypes := #[t, t] })
    (base : Nat) (e : TypeId) (i : TypeInfo) (z : Value) (size bytes : Nat) (ht : P.underlying t = some (.slice e)) (hi : P.info? e = some i) (hz : i.zero = some z)
    (hsize : i.size = size) (hby : i.bytes = bytes) (hzs : z.cells.size = size) (hsz : 0 < size)
    (v : Value) (n : Nat) (xs : List Value) (hs : a.eval s = v) (hown : w.ownsRow base e size v n xs)
    (B : Nat) (A : Option Addr) (m c : Nat) (news : List Value) (hx : a.eval x = .slice A m c) (hr : Reads w B size A m news) (h1 : ∀ u ∈ news, u.oneCell' = true)
    (h63 : n + m ≤ maxLen) (hbytes : (n + m) * bytes ≤ 140737488355328) (hbase : base ≤ w.heap.size)
    (h : ∀ v' w', w'.ownsRow base e size v' (n + m) (xs ++ news) → w.grownBy w' v.ownBlock → (v'.ownBlock = v.ownBlock ∨ v'.ownBlock = some w.heap.size) → K (a.put o.dst v') w') :
    if Region.wanted o (yielded ops a.tmps) = true then Oper.wp P o a w K Q else E := by
  have hw : Region.wanted o (yielded ops a.tmps) = true := by simp [Region.wanted, hgd]
  rw [if_pos hw]
  obtain ⟨v', w', hr, h2, h3, h5⟩ := run_append_reads (P := P) w base t o.type e i z size bytes ht hi hz hsize hby hzs hsz v n xs hown B A m c news hr h1 h63 hbytes hbase
  unfold Oper.wp execOp
  simp only [ho, resolve, invoke, builtin, Sem.run_bind, Sem.run_pure, Result.andThen_ok, List.map_toArray, List.map_cons, List.map_nil, hs, hx, hr]
  exact h v' w' h2 h3 h5
end Go.Proofs.YtbleibmjippmpaaDoor
