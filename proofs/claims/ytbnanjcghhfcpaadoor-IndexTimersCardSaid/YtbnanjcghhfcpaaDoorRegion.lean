/- A region that draws its order: operations at its beginning that stand in one forced order and may do whatever they like, then operations that leave the world alone. No program is named here. -/
import Derived.Test.YtbnanjcghhfcpaaDoorKit
namespace Go.Proofs.YtbnanjcghhfcpaaDoor
open Go.RowKit

section
variable {P : Program} {ops : Array Oper} {Q : Exit → Act → World → Prop}

def listedTo (size : Nat) : Nat → Array Bool
  | 0 => Array.replicate size false
  | k + 1 => (listedTo size k).setIfInBounds k true
/-- The first n operations stand in one order; those behind them may be walked in the order of the text. -/
def regHeadB (ops : Array Oper) (n : Nat) : Bool :=
  Region.noSelect ops && decide (n ≤ ops.size) && ((List.range n).all fun k => Region.ready .any ops (listedTo ops.size k) == [k]) && Region.lexFrom .any ops (ops.size - n) n (listedTo ops.size n)

/-- What is asked behind the forced operations. -/
def RestQ (P : Program) (ops : Array Oper) (Q : Exit → Act → World → Prop) (rest : List Oper) : Exit → Act → World → Prop
  | .normal, a, w => wpQuiet P ops (fun w' => ∃ n, w' = w.drewN n) (fun a' => ∀ w', (∃ n, w' = w.drewN n) → Q .normal a' w') rest a
  | e, a, w => Q e a w
theorem restQ_normal {rest : List Oper} {a : Act} {w : World} (h : wpQuiet P ops (fun w' => ∃ n, w' = w.drewN n) (fun a' => ∀ w', (∃ n, w' = w.drewN n) → Q .normal a' w') rest a) : RestQ P ops Q rest .normal a w := h

theorem letsOut_post {Q Q' : Exit → Act → World → Prop} (h : ∀ e a w, e ≠ .normal → Q e a w → Q' e a w) (hh : LetsOut Q) : LetsOut Q' := by
  obtain ⟨a, w, hq⟩ := hh
  exact ⟨a, w, h _ _ _ (by intro hh; cases hh) hq⟩
theorem Oper.wp_post {o : Oper} {a : Act} {w : World} {K : Act → World → Prop} {Q Q' : Exit → Act → World → Prop} (h : ∀ e a w, e ≠ .normal → Q e a w → Q' e a w) (hh : o.wp P a w K Q) : o.wp P a w K Q' := by
  unfold Oper.wp at *
  generalize (execOp a.eval o).run P w = r at *
  cases r with
  | ok n w' =>
    cases n <;> simp only [Oper.upon] at hh ⊢ <;>
      first
        | exact hh
        | exact Calls.mono hh (fun e w'' he => by cases e <;> first | exact he | exact h _ _ _ (by intro hh; cases hh) he | exact letsOut_post h he)
        | exact Rows.mono hh (fun _ _ he => he)
  | halt x w' => cases x <;> simp only [Oper.upon] at hh ⊢ <;> first | exact hh | exact h _ _ _ (by intro hh; cases hh) hh

theorem wpAny_head (hns : Region.noSelect ops = true) (rest : List Oper) (n : Nat) (hn : n + rest.length = ops.size) (hrest : ∀ j, rest[j]? = ops[n + j]?)
    (hlex : Region.lexFrom .any ops rest.length n (listedTo ops.size n) = true) (hf : ∀ k, k < n → Region.ready .any ops (listedTo ops.size k) = [k]) :
    ∀ (l : List Oper) (k : Nat) (a : Act) (w : World), k + l.length = n → (∀ j, j < l.length → l[j]? = ops[k + j]?) → wpList P ops (RestQ P ops Q rest) l a w → wpAny P .any ops Q (l.length + rest.length) (listedTo ops.size k) a w
  | [], k, a, w, hk, _, h => by
    obtain rfl : k = n := by simpa using hk
    have h1 := wpAnyQ_lex (md := .any) hns rest k (listedTo ops.size k) a hrest hlex h
    rw [List.length_nil, Nat.zero_add]
    exact wpAny_of_quiet (C := fun w' => ∃ n, w' = w.drewN n) (fun a' w' hw' hq => hq w' hw') _ _ _ w ⟨0, rfl⟩ h1
  | o :: l, k, a, w, hk, hl, h => by
    have hk' : k < n := by simp only [List.length_cons] at hk; omega
    have h0 : ops[k]? = some o := by simpa using (hl 0 (by simp)).symm
    have hr := hf k hk'
    rw [List.length_cons, show l.length + 1 + rest.length = (l.length + rest.length) + 1 by omega]
    refine ⟨fun h => (by rw [hr] at h; cases h), fun i hi => ?_⟩
    rw [hr] at hi
    obtain rfl : i = k := by simpa using hi
    have step : ∀ a' w', wpList P ops (RestQ P ops Q rest) l a' w' → wpAny P .any ops Q (l.length + rest.length) ((listedTo ops.size i).setIfInBounds i true) a' w' := fun a' w' h' =>
      wpAny_head hns rest n hn hrest hlex hf l (i + 1) a' w' (by simp only [List.length_cons] at hk; omega) (fun j hj => by
        have := hl (j + 1) (by simp; omega)
        simpa [Nat.add_assoc, Nat.add_comm 1 j] using this) h'
    have hpost : ∀ e a w, e ≠ .normal → RestQ P ops Q rest e a w → Q e a w := fun e a w hne hq => by
      cases e <;> first | exact hq | exact absurd rfl hne
    unfold wpOp
    rw [h0]
    simp only [wpList] at h
    show if Region.wanted o (yielded ops a.tmps) = true then _ else _
    split
    · rename_i hw
      rw [if_pos hw] at h
      rcases h with h | ⟨h1, h2⟩
      · exact .inl (Oper.wp_post hpost (Oper.wp_mono step h))
      · exact .inr ⟨h1, letsOut_post hpost h2⟩
    · rename_i hw
      rw [if_neg hw] at h
      exact step _ _ h

/-- The law: n operations in one forced order, walked as they stand; then the others, quiet. -/
theorem wp_region_head {id : Nat} {a : Act} {w : World} {l : List Oper} (n : Nat) (hm : P.follows .mixedOrders = true) (hB : regHeadB l.toArray n = true)
    (h : wpList P l.toArray (RestQ P l.toArray Q (l.drop n)) (l.take n) a w.drew) : (Code.region id l.toArray true).wp P Q a w := by
  simp only [regHeadB, Bool.and_eq_true, decide_eq_true_eq, List.all_eq_true, List.mem_range, beq_iff_eq] at hB
  obtain ⟨⟨⟨h1, h2⟩, h3⟩, h4⟩ := hB
  have h2' : n ≤ l.length := by simpa using h2
  have hd : (l.drop n).length = l.toArray.size - n := by simp
  have ht : (l.take n).length = n := by simp; omega
  refine wp_region_any hm ?_
  have := wpAny_head (P := P) (Q := Q) h1 (l.drop n) n (by rw [hd]; omega) (fun j => by simp [List.getElem?_drop]) (by rw [hd]; exact h4) h3 (l.take n) 0 a w.drew (by rw [ht]; omega) (fun j hj => by
    rw [ht] at hj
    simp [hj]) h
  rw [ht, hd, show n + (l.toArray.size - n) = l.toArray.size by omega] at this
  exact this
end
end Go.Proofs.YtbnanjcghhfcpaaDoor
