/- Arguments opened: a slice whose elements have any number of cells, as a list of plain things. No program is named here. -/
import Derived.Test.YtaonccobohiiiaaDoorKit
import Derived.Deep.Slices
import Derived.Lib.SmallJoins
import Derived.ChangeSame
namespace Go.Proofs.YtaonccobohiiiaaDoor
open Go.RowKit Go.ChangeShapes Go.WideShapes Go.Deep

/-- xs are the cells of the elements l, size cells each; R says what an element's cells are. -/
def RowsOf {α : Type} (size : Nat) (R : List Value → α → Prop) (xs : List Value) (l : List α) : Prop :=
  xs.length = l.length * size ∧ ∀ i (h : i < l.length), R ((xs.drop (i * size)).take size) l[i]
/-- v is a slice that lies below block B and holds the elements l. -/
def ListAt {α : Type} (w : World) (B size : Nat) (R : List Value → α → Prop) (v : Value) (l : List α) : Prop :=
  ∃ A c xs, v = .slice A l.length c ∧ l.length ≤ c ∧ l.length ≤ maxLen ∧ Reads w B size A l.length xs ∧ RowsOf size R xs l

theorem elem_len {α : Type} {size : Nat} {R : List Value → α → Prop} {xs : List Value} {l : List α} (h : RowsOf size R xs l) (i : Nat) (hi : i < l.length) : ((xs.drop (i * size)).take size).length = size := by
  have h1 := h.1
  have h2 : (i + 1) * size ≤ l.length * size := Nat.mul_le_mul_right _ (by omega)
  rw [Nat.add_mul, Nat.one_mul] at h2
  simp
  omega
/-- An element: where its cells lie. -/
theorem ListAt.elem {α : Type} {w : World} {B size : Nat} {R : List Value → α → Prop} {A : Option Addr} {n c : Nat} {l : List α} (h : ListAt w B size R (.slice A n c) l) (k : Nat) (hk : k < l.length) :
    ∃ b off cs, A = some ⟨b, off, none⟩ ∧ b < B ∧ R cs l[k] ∧ cs.length = size ∧ ∀ j u, cs[j]? = some u → w.cell? ⟨b, off + k * size + j, none⟩ = some u := by
  obtain ⟨A', c', xs, e, _, _, hr, hrow⟩ := h
  cases e
  obtain ⟨b, off, rfl, hb, hc⟩ := hr.2 (by omega)
  refine ⟨b, off, _, rfl, hb, hrow.2 k hk, elem_len hrow k hk, fun j u hu => ?_⟩
  rw [Nat.add_assoc]
  apply hc
  rw [List.getElem?_take] at hu
  split at hu
  · rw [List.getElem?_drop] at hu
    exact hu
  · cases hu
theorem ListAt.form {α : Type} {w : World} {B size : Nat} {R : List Value → α → Prop} {v : Value} {l : List α} (h : ListAt w B size R v l) : ∃ A c, v = .slice A l.length c ∧ l.length ≤ c ∧ l.length ≤ maxLen := by
  obtain ⟨A, c, xs, e, h1, h2, _⟩ := h
  exact ⟨A, c, e, h1, h2⟩
/-- The same list elsewhere: the cells below B read as they did, and so do the elements. -/
theorem ListAt.moved {α : Type} {w w' : World} {B size : Nat} {R R' : List Value → α → Prop} {v : Value} {l : List α} (h : ListAt w B size R v l) (hk : ∀ b off, b < B → w'.cell? ⟨b, off, none⟩ = w.cell? ⟨b, off, none⟩) (hR : ∀ cs a, a ∈ l → R cs a → R' cs a) : ListAt w' B size R' v l := by
  obtain ⟨A, c, xs, e, h1, h2, h3, h4⟩ := h
  exact ⟨A, c, xs, e, h1, h2, h3.moved hk, h4.1, fun i hi => hR _ _ (List.getElem_mem _) (h4.2 i hi)⟩
theorem ListAt.wider {α : Type} {w : World} {B B' size : Nat} {R R' : List Value → α → Prop} {v : Value} {l : List α} (h : ListAt w B size R v l) (hB : B ≤ B') (hR : ∀ cs a, a ∈ l → R cs a → R' cs a) : ListAt w B' size R' v l := by
  obtain ⟨A, c, xs, e, h1, h2, h3, h4⟩ := h
  exact ⟨A, c, xs, e, h1, h2, h3.wider hB, h4.1, fun i hi => hR _ _ (List.getElem_mem _) (h4.2 i hi)⟩

theorem flat_len {α : Type} (f : Nat → List α) (size : Nat) : ∀ n, (∀ i, i < n → (f i).length = size) → ((List.range n).flatMap f).length = n * size
  | 0, _ => by simp
  | n + 1, h => by
    rw [List.range_succ, List.flatMap_append, List.length_append, flat_len f size n (fun i hi => h i (by omega)), Nat.add_mul]
    simp [h n (by omega)]
theorem flat_part {α : Type} (f : Nat → List α) (size : Nat) : ∀ n, (∀ i, i < n → (f i).length = size) → ∀ i, i < n → (((List.range n).flatMap f).drop (i * size)).take size = f i
  | 0, _, i, hi => by omega
  | n + 1, h, i, hi => by
    have hl := flat_len f size n (fun i hi => h i (by omega))
    rw [List.range_succ, List.flatMap_append]
    by_cases e : i = n
    · subst e
      rw [← hl, List.drop_left]
      simp [← h i (by omega)]
    · have h2 : (i + 1) * size ≤ n * size := Nat.mul_le_mul_right _ (by omega)
      rw [Nat.add_mul, Nat.one_mul] at h2
      rw [List.drop_append_of_le_length (by omega), List.take_append_of_le_length (by rw [List.length_drop, hl]; omega)]
      exact flat_part f size n (fun i hi => h i (by omega)) i (by omega)
theorem list_of {α : Type} {n : Nat} {p : Nat → α → Prop} (h : ∀ i, i < n → ∃ a, p i a) : ∃ l : List α, l.length = n ∧ ∀ i (hi : i < l.length), p i l[i] := by
  induction n with
  | zero => exact ⟨[], rfl, fun i hi => by simp at hi⟩
  | succ n ih =>
    obtain ⟨l, hl, hp⟩ := ih (fun i hi => h i (by omega))
    obtain ⟨a, ha⟩ := h n (by omega)
    refine ⟨l ++ [a], by simp [hl], fun i hi => ?_⟩
    by_cases e : i < l.length
    · rw [List.getElem_append_left e]
      exact hp i e
    · have : i = l.length := by simp at hi; omega
      subst this
      simp
      rw [hl]
      exact ha

section
variable {H : Type} {enc : TypeId × Value → H} {P : Program} {w : World} {base : Nat} {spare : Nat → Bool} {held : Bool}
theorem open_list {α : Type} {t e : TypeId} {size fuel : Nat} {R : List Value → α → Prop} {cs : List Value} {x : DataW H × List MemPlace} (ht : P.underlying t = some (.slice e)) (hC : P.cellsOf e = size) (hpos : 0 < size)
    (hR : ∀ (m : Nat) (cs : List Value) (y : DataW H × List MemPlace), DataW.trod enc P w base spare held m e cs = some y → ∃ a, R cs a)
    (h : DataW.trod enc P w base spare held fuel t cs = some x) : ∃ v l, cs = [v] ∧ ListAt w w.heap.size size R v l := by
  rcases open_slice ht h with ⟨rfl, _⟩ | ⟨a, len, cap, m, n, D, Pl, rfl, hb, hl, hm, hmm, _, hx⟩
  · exact ⟨_, [], rfl, none, 0, [], rfl, Nat.le_refl _, Nat.zero_le _, Reads.empty _ _ _ _, by simp, fun i hi => by simp at hi⟩
  have hlm : len ≤ m := by rw [hmm]; split <;> omega
  rw [hC] at hx
  have hch : ∀ i, ∃ cs' : List Value, i < len → w.cells? base (a.add (i * size)) size = some cs' ∧ DataW.trod enc P w base spare held n e cs' = some (D i, Pl i) := fun i => by
    by_cases hi : i < len
    · obtain ⟨cs', h1, h2⟩ := hx i (by omega)
      exact ⟨cs', fun _ => ⟨h1, h2⟩⟩
    · exact ⟨[], fun h => absurd h hi⟩
  let f : Nat → List Value := fun i => (hch i).choose
  have hf : ∀ i, i < len → w.cells? base (a.add (i * size)) size = some (f i) ∧ DataW.trod enc P w base spare held n e (f i) = some (D i, Pl i) := fun i hi => (hch i).choose_spec hi
  have hfl : ∀ i, i < len → (f i).length = size := fun i hi => (World.cells?_some (hf i hi).1).2.1
  obtain ⟨l, hll, hl2⟩ := list_of (n := len) (p := fun i a => R (f i) a) fun i hi => hR _ _ _ (hf i hi).2
  refine ⟨_, l, rfl, some a, cap, (List.range len).flatMap f, by rw [hll], by omega, by omega, ⟨by rw [hll, flat_len f size len hfl], fun hn => ?_⟩, by rw [hll, flat_len f size len hfl], fun i hi => ?_⟩
  · rw [hll] at hn
    have h0 := World.cells?_some (hf 0 hn).1
    have hc0 := h0.2.2 0 hpos
    have hsp : a.spot = none := by
      rw [Nat.zero_mul] at hc0
      have : (f 0)[0]? = some ((f 0)[0]'(by rw [hfl 0 hn]; exact hpos)) := List.getElem?_eq_getElem _
      rw [this] at hc0
      have e : (a.add 0).add 0 = a := rfl
      rw [e] at hc0
      unfold World.cell? at hc0
      cases hs : a.spot with
      | none => rfl
      | some s =>
        rw [hs] at hc0
        split at hc0 <;> simp at hc0
    obtain ⟨b, off, sp⟩ := a
    simp only at hsp
    subst hsp
    have hcell : ∀ j u, ((List.range len).flatMap f)[j]? = some u → w.cell? ⟨b, off + j, none⟩ = some u := by
      intro j u hu
      have hj : j < len * size := by
        rcases Nat.lt_or_ge j (len * size) with h | h
        · exact h
        · rw [List.getElem?_eq_none (by rw [flat_len f size len hfl]; exact h)] at hu
          cases hu
      have hq : j / size < len := Nat.div_lt_of_lt_mul (by rw [Nat.mul_comm]; exact hj)
      have hr : j % size < size := Nat.mod_lt _ hpos
      have hpart := flat_part f size len hfl (j / size) hq
      have e : j = j / size * size + j % size := by rw [Nat.mul_comm]; exact (Nat.div_add_mod j size).symm
      have hget : (f (j / size))[j % size]? = some u := by
        rw [← hpart, List.getElem?_take, if_pos hr, List.getElem?_drop, ← e]
        exact hu
      have := (World.cells?_some (hf _ hq).1).2.2 (j % size) hr
      rw [hget, add_plain, add_plain, Nat.add_assoc, ← e] at this
      exact this
    refine ⟨b, off, rfl, ?_, hcell⟩
    have hx0 : ((List.range len).flatMap f)[0]? = some (((List.range len).flatMap f)[0]'(by rw [flat_len f size len hfl]; exact Nat.mul_pos hn hpos)) := List.getElem?_eq_getElem _
    exact World.block_lt_of_cell? w ⟨b, off + 0, none⟩ (hcell 0 _ hx0)
  · rw [flat_part f size len hfl i (by omega)]
    exact hl2 i hi
end

/-! Elements of one cell -/
def OneR {α : Type} (f : α → Value) (cs : List Value) (a : α) : Prop := cs = [f a]
theorem rows_one {α : Type} (f : α → Value) (l : List α) : RowsOf 1 (OneR f) (l.map f) l := by
  refine ⟨by simp, fun i hi => ?_⟩
  rw [Nat.mul_one]
  apply List.ext_getElem
  · simp; omega
  · intro j h1 h2
    have : j = 0 := by simpa using h2
    subst this
    simp
theorem one_rows {α : Type} {f : α → Value} {l : List α} {xs : List Value} (h : RowsOf 1 (OneR f) xs l) : xs = l.map f := by
  apply List.ext_getElem
  · simpa using h.1
  · intro i h1 h2
    have hi : i < l.length := by simpa using h2
    have := h.2 i hi
    unfold OneR at this
    rw [Nat.mul_one] at this
    have h3 : ((xs.drop i).take 1)[0]? = some (f l[i]) := by rw [this]; rfl
    rw [List.getElem?_take, if_pos (by omega), List.getElem?_drop, Nat.add_zero, List.getElem?_eq_getElem h1] at h3
    simpa using h3
theorem ListAt.one {α : Type} {w : World} {B : Nat} {f : α → Value} {v : Value} {l : List α} (h : ListAt w B 1 (OneR f) v l) : ∃ A c, v = .slice A l.length c ∧ l.length ≤ c ∧ l.length ≤ maxLen ∧ Reads w B 1 A l.length (l.map f) := by
  obtain ⟨A, c, xs, e, h1, h2, h3, h4⟩ := h
  rw [one_rows h4] at h3
  exact ⟨A, c, e, h1, h2, h3⟩
theorem ListAt.of_one {α : Type} {w : World} {B : Nat} {f : α → Value} {l : List α} {A : Option Addr} {n c : Nat} (hn : l.length = n) (h1 : n ≤ c) (h2 : c ≤ maxLen) (h3 : Reads w B 1 A n (l.map f)) : ListAt w B 1 (OneR f) (.slice A n c) l := by
  subst hn
  exact ⟨A, c, _, rfl, h1, Nat.le_trans h1 h2, h3, rows_one f l⟩
abbrev intR : List Value → Int → Prop := OneR (Value.int .i64)
abbrev byteR : List Value → UInt8 → Prop := OneR fun b => .int .u8 (b.toNat : Int)

section
variable {H : Type} {enc : TypeId × Value → H} {P : Program} {w : World} {base : Nat} {spare : Nat → Bool} {held : Bool}
theorem open_byte {e : TypeId} (he : P.underlying e = some (.int .u8)) (m : Nat) (cs : List Value) (y : DataW H × List MemPlace) (h : DataW.trod enc P w base spare held m e cs = some y) : ∃ a, byteR cs a := by
  obtain ⟨n, rfl, -, hw⟩ := DataW.trod_int he h
  have hb : 0 ≤ n ∧ n ≤ 255 := by
    have e1 : IntKind.u8.min = 0 := by decide
    have e2 : IntKind.u8.max = 255 := by decide
    simp only [Lit.wf, Bool.and_eq_true, decide_eq_true_eq, e1, e2] at hw
    exact hw
  refine ⟨UInt8.ofNat n.toNat, ?_⟩
  unfold byteR OneR
  congr 2
  simp
  omega
theorem open_intE {e : TypeId} (he : P.underlying e = some (.int .i64)) (m : Nat) (cs : List Value) (y : DataW H × List MemPlace) (h : DataW.trod enc P w base spare held m e cs = some y) : ∃ a, intR cs a := by
  obtain ⟨n, rfl, -, hw⟩ := DataW.trod_int he h
  exact ⟨n, rfl⟩
end
end Go.Proofs.YtaonccobohiiiaaDoor
