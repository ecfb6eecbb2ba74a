/- Records as plain data: what is right, its bytes, how bytes are read. No program is named here. -/
import Derived.Test.YtbnanjcghhfcpaaDoorTake
import Derived.Test.YtbnanjcghhfcpaaDoorText
namespace Go.Proofs.YtbnanjcghhfcpaaDoor
open Go.RowKit

/-- f holds of all numbers below n. -/
def allB (n : Nat) (f : Nat → Bool) : Bool := (List.range n).all f
theorem allB_true {n : Nat} {f : Nat → Bool} (h : ∀ j, j < n → f j = true) : allB n f = true := by
  simp only [allB, List.all_eq_true, List.mem_range]
  exact h
theorem allB_false {n k : Nat} {f : Nat → Bool} (hk : k < n) (h : f k = false) : allB n f = false := by
  rw [← Bool.not_eq_true, allB, List.all_eq_true]
  intro hh
  have := hh k (by simpa using hk)
  rw [h] at this
  cases this
theorem allB_at {n : Nat} {f : Nat → Bool} (h : allB n f = true) (j : Nat) (hj : j < n) : f j = true := by
  simp only [allB, List.all_eq_true, List.mem_range] at h
  exact h j hj

/-- A record. -/
structure Rc where
  chart : Int
  born : Int
  steps : Int
  active : List Int
  vars : List Int
  mem : List (Int × List Int)
  timers : List (List UInt8 × Int)
  over : Bool

def clkB (n : Int) : Bool := decide (0 ≤ n ∧ n ≤ 1099511627776)
/-- The state at a place of a list is one, and above the one ahead of it. -/
def stAt (l : List Int) (j : Nat) : Bool := decide (0 ≤ l.getD j 0) && decide (l.getD j 0 ≤ 31) && (decide (j = 0) || decide (l.getD (j - 1) 0 < l.getD j 0))
def statesB (l : List Int) : Bool := allB l.length (stAt l) && decide (0 < l.length)
def varAt (l : List Int) (j : Nat) : Bool := decide (-2147483647 ≤ l.getD j 0) && decide (l.getD j 0 ≤ 2147483647)
def varsB (l : List Int) : Bool := allB l.length (varAt l) && decide (l.length ≤ 8)
def memAt (l : List (Int × List Int)) (j : Nat) : Bool :=
  (decide (0 ≤ (l.getD j (0, [])).1) && decide ((l.getD j (0, [])).1 ≤ 31)) && statesB (l.getD j (0, [])).2 && (decide (j = 0) || decide ((l.getD (j - 1) (0, [])).1 < (l.getD j (0, [])).1))
def memsB (l : List (Int × List Int)) : Bool := allB l.length (memAt l)
def tmAt (l : List (List UInt8 × Int)) (j : Nat) : Bool :=
  nameB (l.getD j ([], 0)).1 && clkB (l.getD j ([], 0)).2 && (decide (j = 0) || Op.bytesLess (l.getD (j - 1) ([], 0)).1 (l.getD j ([], 0)).1)
def timersB (l : List (List UInt8 × Int)) : Bool := allB l.length (tmAt l) && decide (l.length ≤ 8)
def headB (r : Rc) : Bool := decide (1 ≤ r.chart ∧ r.chart ≤ 2147483647) && clkB r.born && clkB r.steps
def rightB (r : Rc) : Bool := headB r && statesB r.active && varsB r.vars && memsB r.mem && timersB r.timers

/-- States as a number. -/
def setN (l : List Int) : Nat := (l.map fun i => 2 ^ i.toNat).sum
/-- A number without a sign. -/
def foldN (n : Int) : Nat := if n < 0 then (-2 * n - 1).toNat else (2 * n).toNat
def varBs (l : List Int) : List UInt8 := l.flatMap fun v => lowB 4 (foldN v)
def memBs (l : List (Int × List Int)) : List UInt8 := l.flatMap fun m => lowB 1 m.1.toNat ++ lowB 4 (setN m.2)
def tmBs (l : List (List UInt8 × Int)) : List UInt8 := l.flatMap fun t => lowB 2 t.1.length ++ t.1 ++ lowB 8 t.2.toNat
def headBs (r : Rc) : List UInt8 := [73, 49] ++ lowB 4 r.chart.toNat ++ lowB 8 r.born.toNat ++ lowB 8 r.steps.toNat ++ lowB 1 r.over.toNat ++ lowB 4 (setN r.active) ++ lowB 1 r.vars.length
/-- A right record's bytes. -/
def recBs (r : Rc) : List UInt8 := headBs r ++ varBs r.vars ++ lowB 1 r.mem.length ++ memBs r.mem ++ lowB 1 r.timers.length ++ tmBs r.timers

theorem flatMap_take_succ {α : Type} (f : α → List UInt8) (l : List α) (k : Nat) (h : k < l.length) : (l.take (k + 1)).flatMap f = (l.take k).flatMap f ++ f l[k] := by
  rw [List.take_succ_eq_append_getElem h, List.flatMap_append]
  simp

theorem setN_snoc (l : List Int) (x : Int) : setN (l ++ [x]) = setN l + 2 ^ x.toNat := by simp [setN]
theorem setN_take (l : List Int) (k : Nat) (h : k < l.length) : setN (l.take (k + 1)) = setN (l.take k) + 2 ^ l[k].toNat := by
  rw [List.take_succ_eq_append_getElem h, setN_snoc]

theorem getD_get {α : Type} (l : List α) (k : Nat) (d : α) (h : k < l.length) : l.getD k d = l[k] := by simp [List.getD, h]
theorem stAt_ge {l : List Int} {j : Nat} (h : stAt l j = true) : 0 ≤ l.getD j 0 ∧ l.getD j 0 ≤ 31 ∧ (j = 0 ∨ l.getD (j - 1) 0 < l.getD j 0) := by
  simp only [stAt, Bool.and_eq_true, Bool.or_eq_true, decide_eq_true_eq] at h
  exact ⟨h.1.1, h.1.2, h.2⟩
/-- Of rising states those ahead of a place make less than the state there does. -/
theorem setN_lt (l : List Int) : ∀ k, (∀ j, j ≤ k → j < l.length → stAt l j = true) → k < l.length → setN (l.take k) < 2 ^ (l.getD k 0).toNat
  | 0, _, _ => by simp [setN]; exact Nat.pow_pos (by decide)
  | k + 1, h, hk => by
    have ih := setN_lt l k (fun j hj => h j (by omega)) (by omega)
    rw [setN_take l k (by omega), ← getD_get l k 0 (by omega)]
    have h1 := stAt_ge (h (k + 1) (by omega) hk)
    have h0 := stAt_ge (h k (by omega) (by omega))
    have h3 : l.getD k 0 < l.getD (k + 1) 0 := by
      have := h1.2.2
      simp at this
      simpa using this
    have : (2 : Nat) ^ ((l.getD k 0).toNat + 1) ≤ 2 ^ (l.getD (k + 1) 0).toNat := Nat.pow_le_pow_right (by decide) (by omega)
    rw [Nat.pow_succ] at this
    omega
theorem setN_take_lt (l : List Int) (h : allB l.length (stAt l) = true) (k : Nat) (hk : k ≤ l.length) : setN (l.take k) < 4294967296 := by
  cases k with
  | zero => simp [setN]
  | succ k =>
    have ih := setN_lt l k (fun j _ hj => allB_at h j hj) (by omega)
    rw [setN_take l k (by omega), ← getD_get l k 0 (by omega)]
    have h0 := stAt_ge (allB_at h k (by omega))
    have : (2 : Nat) ^ ((l.getD k 0).toNat + 1) ≤ 2 ^ 32 := Nat.pow_le_pow_right (by decide) (by omega)
    rw [Nat.pow_succ] at this
    omega
theorem setN_bound (l : List Int) (h : allB l.length (stAt l) = true) : setN l < 4294967296 := by
  have := setN_take_lt l h l.length (Nat.le_refl _)
  rwa [List.take_length] at this

/-! How bytes are read -/
/-- The number at a place, and the place behind it. -/
def pnum (bs : List UInt8) (at_ wd : Nat) : Option (Nat × Nat) := if at_ + wd ≤ bs.length ∧ valLE (cut bs at_ wd) ≤ 4611686018427387904 then some (valLE (cut bs at_ wd), at_ + wd) else none
def ptext (bs : List UInt8) (at_ : Nat) : Option (List UInt8 × Nat) :=
  if at_ + 2 ≤ bs.length ∧ at_ + 2 + valLE (cut bs at_ 2) ≤ bs.length then some (cut bs (at_ + 2) (valLE (cut bs at_ 2)), at_ + 2 + valLE (cut bs at_ 2)) else none
def setOf (n : Nat) : List Int := ((List.range 32).filter fun (i : Nat) => n / 2 ^ i % 2 == 1).map fun (i : Nat) => (i : Int)
def unfoldI (n : Nat) : Int := if n % 2 = 1 then -(((n + 1) / 2 : Nat) : Int) else ((n / 2 : Nat) : Int)
def pvars {α : Type} (bs : List UInt8) (K : List Int → Nat → Option α) : Nat → Nat → List Int → Option α
  | 0, a, acc => K acc a
  | n + 1, a, acc => (pnum bs a 4).bind fun x => pvars bs K n x.2 (acc ++ [unfoldI x.1])
def pmems {α : Type} (bs : List UInt8) (K : List (Int × List Int) → Nat → Option α) : Nat → Nat → List (Int × List Int) → Option α
  | 0, a, acc => K acc a
  | n + 1, a, acc => (pnum bs a 1).bind fun x => (pnum bs x.2 4).bind fun y => pmems bs K n y.2 (acc ++ [((x.1 : Int), setOf y.1)])
def ptms {α : Type} (bs : List UInt8) (K : List (List UInt8 × Int) → Nat → Option α) : Nat → Nat → List (List UInt8 × Int) → Option α
  | 0, a, acc => K acc a
  | n + 1, a, acc => (ptext bs a).bind fun x => (pnum bs x.2 8).bind fun y => ptms bs K n y.2 (acc ++ [(x.1, (y.1 : Int))])
/-- The parts of a record behind its variables' number, and so on. -/
def p9 (bs : List UInt8) (c b s : Int) (o : Bool) (ac vs : List Int) (ms : List (Int × List Int)) (a : Nat) : Option Rc :=
  (pnum bs a 1).bind fun x => ptms bs (fun ts _ => some ⟨c, b, s, ac, vs, ms, ts, o⟩) x.1 x.2 []
def p8 (bs : List UInt8) (c b s : Int) (o : Bool) (ac vs : List Int) (a : Nat) : Option Rc :=
  (pnum bs a 1).bind fun x => pmems bs (fun ms a' => p9 bs c b s o ac vs ms a') x.1 x.2 []
def p7 (bs : List UInt8) (c b s : Int) (o : Bool) (ac : List Int) (a : Nat) : Option Rc :=
  (pnum bs a 1).bind fun x => pvars bs (fun vs a' => p8 bs c b s o ac vs a') x.1 x.2 []
def p6 (bs : List UInt8) (c b s : Int) (o : Bool) (a : Nat) : Option Rc := (pnum bs a 4).bind fun x => p7 bs c b s o (setOf x.1) x.2
def p5 (bs : List UInt8) (c b s : Int) (a : Nat) : Option Rc := (pnum bs a 1).bind fun x => p6 bs c b s (decide (x.1 = 1)) x.2
def p4 (bs : List UInt8) (c b : Int) (a : Nat) : Option Rc := (pnum bs a 8).bind fun x => p5 bs c b x.1 x.2
def p3 (bs : List UInt8) (c : Int) (a : Nat) : Option Rc := (pnum bs a 8).bind fun x => p4 bs c x.1 x.2
def parse (bs : List UInt8) : Option Rc := (pnum bs 2 4).bind fun x => p3 bs x.1 x.2
/-- The record of bytes. -/
def getR (bs : List UInt8) : Option Rc := (parse bs).bind fun r => if rightB r = true ∧ recBs r = bs then some r else none

/-- A reader's state: not bad, and the whole's answer is k; or bad, and there is none. -/
def Inv {α : Type} (bad : Bool) (T k : Option α) : Prop := (bad = false → T = k) ∧ (bad = true → T = none)
theorem Inv.go {α β : Type} {bad bad' : Bool} {T : Option α} {q : Option β} {k : β → Option α} (h : Inv bad T (q.bind k)) {x : β} (hx : (q = some x ∧ bad' = bad) ∨ (q = none ∧ bad' = true)) : Inv bad' T (k x) := by
  rcases hx with ⟨hq, hb⟩ | ⟨hq, hb⟩
  · subst hq hb
    exact h
  · subst hq hb
    refine ⟨fun h => (by cases h), fun _ => ?_⟩
    cases bad
    · exact h.1 rfl
    · exact h.2 rfl
end Go.Proofs.YtbnanjcghhfcpaaDoor
