/- The plain law of charts: what is right, kids, names. No program is named here. -/
import Derived.Test.YtaonccobohiiiaaDoorHD
import Derived.Test.YtaonccobohiiiaaDoorText
namespace Go.Proofs.YtaonccobohiiiaaDoor
open Go.RowKit

/-! Expressions -/
def operandsI (k : Int) : Int := if 1 ≤ k ∧ k ≤ 4 then 0 else if k = 5 ∨ k = 6 then 1 else if 7 ≤ k ∧ k ≤ 19 then 2 else -1
theorem operandsI_in (k : Int) : -1 ≤ operandsI k ∧ operandsI k ≤ 2 := by
  unfold operandsI
  repeat' split
  all_goals omega
def numB (o : OpD) (vs ss : Int) : Bool := if o.kind = 1 then decide (0 ≤ o.n ∧ o.n ≤ 2147483647) else if o.kind = 2 then decide (0 ≤ o.n ∧ o.n < vs) else if o.kind = 4 then decide (0 ≤ o.n ∧ o.n < ss) else decide (o.n = 0)
def stepOk (vs ss n : Int) (o : OpD) : Bool := decide (0 ≤ operandsI o.kind) && decide (operandsI o.kind ≤ n) && numB o vs ss
def hgt (vs ss : Int) : List OpD → Int → Option Int
  | [], n => some n
  | o :: l, n => if stepOk vs ss n o then hgt vs ss l (n - operandsI o.kind + 1) else none
def codeC (l : List OpD) (vs ss : Int) : Int := if 32 < l.length then 8 else if hgt vs ss l 0 = some 1 then 0 else 1
def codeB (l : List OpD) (vs ss : Int) : Bool := codeC l vs ss == 0
theorem hgt_step {vs ss : Int} {l : List OpD} {k : Nat} {o : OpD} {n : Int} (h : l[k]? = some o) (hn : hgt vs ss l 0 = hgt vs ss (l.drop k) n) : (stepOk vs ss n o = true → hgt vs ss l 0 = hgt vs ss (l.drop (k + 1)) (n - operandsI o.kind + 1)) ∧ (stepOk vs ss n o = false → hgt vs ss l 0 = none) := by
  have hk : k < l.length := (List.getElem?_eq_some_iff.1 h).1
  have he : l.drop k = o :: l.drop (k + 1) := by
    rw [List.drop_eq_getElem_cons hk]
    congr 1
    rw [List.getElem?_eq_getElem hk] at h
    exact Option.some.inj h
  rw [he] at hn
  simp only [hgt] at hn
  exact ⟨fun e => by rw [hn, if_pos e], fun e => by rw [hn, if_neg (by rw [e]; simp)]⟩
theorem hgt_end {vs ss : Int} {l : List OpD} {k : Nat} {n : Int} (h : l.length ≤ k) (hn : hgt vs ss l 0 = hgt vs ss (l.drop k) n) : hgt vs ss l 0 = some n := by
  rw [hn, List.drop_eq_nil_of_le h]
  rfl

/-! Actions, states -/
def actB (nv ns : Int) (a : ActD) : Bool :=
  if a.kind = 1 then decide (0 ≤ a.n ∧ a.n < nv) && (a.name == []) && codeB a.code nv ns
  else if a.kind = 2 ∨ a.kind = 4 then (a.n == 0) && nameB a.name && codeB a.code nv ns
  else if a.kind = 3 then (a.n == 0) && (a.name == []) && codeB a.code nv ns
  else if a.kind = 5 then (a.n == 0) && nameB a.name && (a.code == [])
  else false
def actsB (nv ns : Int) (l : List ActD) : Bool := decide (l.length ≤ 32) && l.all (actB nv ns)
def normB (s : StD) : Bool := (s.kind == 1) || (s.kind == 2)
def memyB (s : StD) : Bool := (s.kind == 4) || (s.kind == 5)
def isKid (c : ChD) (i : Int) (real : Bool) (k : Nat) : Bool := match c.states[k]? with
  | some s => (s.parent == i) && (!real || !memyB s)
  | none => false
def kidsTo (c : ChD) (i : Int) (real : Bool) (n : Nat) : List Nat := (List.range n).filter (isKid c i real)
def kidsL (c : ChD) (i : Int) (real : Bool) : List Nat := kidsTo c i real c.states.length
theorem kidsTo_succ (c : ChD) (i : Int) (real : Bool) (k : Nat) : kidsTo c i real (k + 1) = kidsTo c i real k ++ if isKid c i real k then [k] else [] := by
  unfold kidsTo
  rw [List.range_succ, List.filter_append]
  congr 1
  simp only [List.filter_cons, List.filter_nil]
theorem kidsTo_len (c : ChD) (i : Int) (real : Bool) (k : Nat) : (kidsTo c i real k).length ≤ k := by
  have := List.length_filter_le (isKid c i real) (List.range k)
  simpa [kidsTo] using this
theorem kidsTo_lt {c : ChD} {i : Int} {real : Bool} {k n : Nat} (h : k ∈ kidsTo c i real n) : k < n ∧ isKid c i real k = true := by
  simpa [kidsTo, List.mem_filter] using h
/-- The first place at which something holds. -/
def findTo (c : ChD) (name : List UInt8) : Nat → Int
  | 0 => -1
  | k + 1 => if findTo c name k = -1 then (match c.states[k]? with
    | some s => if s.name = name then (k : Int) else -1
    | none => -1) else findTo c name k
def findI (c : ChD) (name : List UInt8) : Int := findTo c name c.states.length
theorem findTo_past (c : ChD) (name : List UInt8) {k : Nat} (h : findTo c name k ≠ -1) : ∀ n, k ≤ n → findTo c name n = findTo c name k := by
  intro n hn
  induction n with
  | zero => obtain rfl : k = 0 := by omega
            rfl
  | succ n ih =>
    by_cases e : k = n + 1
    · rw [e]
    · have := ih (by omega)
      simp only [findTo]
      rw [this, if_neg h]
theorem findTo_is (c : ChD) (name : List UInt8) {k : Nat} (hk : k < c.states.length) (hn : findTo c name k = -1) (s : StD) (hs : c.states[k]? = some s) (he : s.name = name) : findI c name = k := by
  have h1 : findTo c name (k + 1) = k := by
    simp only [findTo, if_pos hn, hs, if_pos he]
  unfold findI
  rw [findTo_past c name (k := k + 1) (by rw [h1]; omega) _ hk, h1]
theorem findTo_step (c : ChD) (name : List UInt8) {k : Nat} (hn : findTo c name k = -1) (s : StD) (hs : c.states[k]? = some s) (he : s.name ≠ name) : findTo c name (k + 1) = -1 := by
  simp only [findTo, if_pos hn, hs, if_neg he]
/-- The first place at which something is not. -/
def firstBad (p : Nat → Bool) (n : Nat) : Option Nat := (List.range n).find? fun k => !p k
theorem firstBad_none {p : Nat → Bool} {n : Nat} (h : ∀ j, j < n → p j = true) : firstBad p n = none := by
  unfold firstBad
  rw [List.find?_eq_none]
  intro x hx
  simp [h x (by simpa using hx)]
theorem firstBad_at {p : Nat → Bool} {n k : Nat} (hk : k < n) (h : ∀ j, j < k → p j = true) (hb : p k = false) : firstBad p n = some k := by
  unfold firstBad
  have e : List.range n = List.range k ++ (k :: (List.range (n - k - 1)).map (k + 1 + ·)) := by
    have : n = k + (n - k) := by omega
    rw [this, List.range_add]
    congr 1
    have e2 : k + (n - k) - k - 1 + 1 = n - k := by omega
    have : n - k = (n - k - 1) + 1 := by omega
    rw [show k + (n - k) - k - 1 = n - k - 1 by omega, this, List.range_succ_eq_map, List.map_cons, List.map_map]
    simp only [Nat.add_zero, Nat.add_sub_cancel, List.cons.injEq, true_and]
    apply List.map_congr_left
    intro a _
    simp only [Function.comp]
    omega
  rw [e, List.find?_append]
  have h1 : (List.range k).find? (fun k => !p k) = none := firstBad_none h
  rw [h1]
  simp [hb]

/-! What is right -/
def at_ (c : ChD) (i : Int) : Option StD := if 0 ≤ i then c.states[i.toNat]? else none
def normAt (c : ChD) (i : Int) : Bool := match at_ c i with
  | some q => normB q
  | none => false
def parentB (c : ChD) (i : Nat) (s : StD) : Bool := (s.parent == -1) || (decide (0 ≤ s.parent) && decide (s.parent < i) && normAt c s.parent)
def plainB (c : ChD) (s : StD) : Bool := match at_ c s.parent with
  | some q => q.kind == 1
  | none => false
def inL (l : List Nat) (n : Int) : Bool := l.any fun k => (k : Int) == n
def shapeB (c : ChD) (i : Nat) (s : StD) : Bool :=
  if s.kind = 1 then (if kidsL c i true = [] then s.initial == -1 else inL (kidsL c i true) s.initial)
  else if s.kind = 2 then ((kidsL c i true).all fun k => normAt c k) && decide (0 < (kidsL c i true).length) && (s.initial == -1)
  else if s.kind = 3 then (kidsL c i false == []) && ((s.parent == -1) || plainB c s) && (s.initial == -1) && (s.out == [])
  else if s.kind = 4 ∨ s.kind = 5 then (kidsL c i false == []) && plainB c s && inL (kidsL c s.parent true) s.initial && (s.inn == []) && (s.out == [])
  else false
def stateB (c : ChD) (i : Nat) (s : StD) : Bool := nameB s.name && (findI c s.name == (i : Int)) && parentB c i s && shapeB c i s && actsB c.vars.length c.states.length s.inn && actsB c.vars.length c.states.length s.out
def cStAt (c : ChD) (i : Nat) : Bool := match c.states[i]? with
  | some s => stateB c i s
  | none => false
def newVar (c : ChD) (name : List UInt8) (i : Nat) : Bool := (c.vars.take i).all fun x => !(x.name == name)
def varB (c : ChD) (i : Nat) (v : VarD) : Bool := newVar c v.name i && nameB v.name && !(v.name == [100, 97, 116, 97]) && !(v.name == [105, 110]) && decide (-2147483647 ≤ v.start) && decide (v.start ≤ 2147483647)
def cVarAt (c : ChD) (i : Nat) : Bool := match c.vars[i]? with
  | some v => varB c i v
  | none => false
def tranB (c : ChD) (t : TrD) : Bool := normAt c t.src && ((t.event == []) || nameB t.event) && ((t.guard == []) || codeB t.guard c.vars.length c.states.length) && actsB c.vars.length c.states.length t.acts && ((t.target == -1) || (decide (0 ≤ t.target) && decide (t.target < c.states.length)))
def cTrAt (c : ChD) (i : Nat) : Bool := match c.trans[i]? with
  | some t => tranB c t
  | none => false
def topB (c : ChD) : Bool := match at_ c c.initial with
  | some q => (q.parent == -1) && normB q
  | none => false
/-- What a chart is told by: the code, the place. -/
def chk (c : ChD) : Int × Int :=
  if 32 < c.states.length ∨ 64 < c.trans.length ∨ 8 < c.vars.length then (8, -1)
  else if c.states = [] ∨ nameB c.name = false then (1, -1)
  else match firstBad (cVarAt c) c.vars.length with
    | some i => (1, 2000 + i)
    | none => match firstBad (cStAt c) c.states.length with
      | some i => (1, i)
      | none => if topB c = false then (1, -1) else match firstBad (cTrAt c) c.trans.length with
        | some i => (1, 1000 + i)
        | none => (0, -1)
end Go.Proofs.YtaonccobohiiiaaDoor
