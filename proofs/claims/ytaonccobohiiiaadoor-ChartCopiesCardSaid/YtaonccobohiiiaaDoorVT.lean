/- Walking without memory: states that stand for others; rows in lists. No program is named here. -/
import Derived.Test.YtaonccobohiiiaaDoorVG
namespace Go.Proofs.YtaonccobohiiiaaDoor
open Go.RowKit

/-- Where one state holds, another one holds too. -/
def Turned (s s2 : St) : Prop := ∀ (x : Ctx) (a : Act) (w : World) (m : Mem), Sim x s a w m → ∃ m', Sim x s2 a w m'
theorem Turned.refl (s : St) : Turned s s := fun _ _ _ m h => ⟨m, h⟩
theorem Turned.trans {s s2 s3 : St} (h : Turned s s2) (k : Turned s2 s3) : Turned s s3 := fun x a w m hh => by
  obtain ⟨m', h2⟩ := h x a w m hh
  exact k x a w m' h2
theorem Turned.less {s s2 : St} (h : Less s s2) : Turned s s2 := fun _ _ _ m hh => ⟨m, hh.less h⟩
theorem Turned.ren {s : St} (r r2 : Nat) (row : Row) (hne : r2 ≠ r) (hr : s.rows r = some row) (hr2 : s.rows r2 = none) (hrz : row.sz ≠ 0) (hp : row.pure = true) : Turned s (renSt s r r2 row) := fun _ _ _ _ hh => ⟨_, hh.ren r r2 row hne hr hr2 hrz hp⟩
theorem Turned.sees {s : St} (L : List (Nat × Nat × AV)) (hL : SeesOk s L) : Turned s (seenSt s L) := fun _ _ _ m hh => by
  obtain ⟨S', k⟩ := hh.sees L hL
  exact ⟨_, k⟩
theorem Turned.mapSee {s : St} (r : Nat) (row : Row) (hr : s.rows r = some row) (hsz : row.sz = 0) (hb : row.es.all (·.all AV.bare) = true) : Turned s (mapSt s r (.fmap row.es)) := fun _ _ _ m hh => by
  obtain ⟨S', k⟩ := hh.mapSee r row hr hsz hb
  exact ⟨_, k⟩
theorem Turned.head {s : St} {F : List (Nat × AV)} {R : List (Nat × Row)} (hF : HoldF s F) (hR : HoldR s R) : Turned s (Go.Proofs.YtaonccobohiiiaaDoor.head F R s.vs s.esc) := .less (less_headS hF hR)
section
variable {P : Program} {env : Env} {nt : Nat} {Q : Exit → St → Prop} {s : St}
theorem awp_late {c : Code} (h : awp P env nt c (fun e s1 => ∃ s2, Turned s1 s2 ∧ Q e s2) s) : awp P env nt c Q s := fun ro x he hn a w m hS => by
  refine wpIn_mono (h ro x he hn a w m hS) ?_
  rintro e a' w' ⟨s', m', ⟨s2, h1, h2⟩, h3⟩
  obtain ⟨m2, h4⟩ := h1 _ _ _ _ h3
  exact ⟨s2, m2, h2, h4⟩
theorem awp_soon {c : Code} {s2 : St} (ht : Turned s s2) (h : awp P env nt c Q s2) : awp P env nt c Q s := fun ro x he hn a w m hS => by
  obtain ⟨m2, h4⟩ := ht _ _ _ _ hS
  exact h ro x he hn a w m2 h4
end
theorem holdR_append {s : St} : ∀ {A B : List (Nat × Row)}, HoldR s (A ++ B) ↔ HoldR s A ∧ HoldR s B
  | [], B => by simp [HoldR]
  | p :: A, B => by simp only [List.cons_append, HoldR, holdR_append (A := A), and_assoc]
theorem headR_append {t : Nat} : ∀ {A B : List (Nat × Row)}, headR (A ++ B) t = match headR A t with | some r => some r | none => headR B t
  | [], B => rfl
  | p :: A, B => by
    simp only [List.cons_append, headR]
    by_cases h : t = p.1
    · simp [h]
    · rw [if_neg h, if_neg h]
      exact headR_append
/-- Rows one behind the other. -/
def rowsAt : Nat → List Row → List (Nat × Row)
  | _, [] => []
  | b, r :: l => (b, r) :: rowsAt (b + 1) l
theorem headR_rowsAt {t : Nat} : ∀ {l : List Row} {b : Nat}, headR (rowsAt b l) t = if b ≤ t then l[t - b]? else none
  | [], b => by simp [rowsAt, headR]
  | r :: l, b => by
    simp only [rowsAt, headR, headR_rowsAt (l := l)]
    by_cases h : t = b
    · subst h; simp
    · rw [if_neg h]
      by_cases h2 : b ≤ t
      · rw [if_pos h2, if_pos (by omega), show t - b = (t - (b + 1)) + 1 by omega, List.getElem?_cons_succ]
      · rw [if_neg h2, if_neg (by omega)]
theorem holdR_rowsAt {s : St} : ∀ {l : List Row} {b : Nat}, (∀ q r, l[q]? = some r → s.rows (q + b) = some r) → HoldR s (rowsAt b l)
  | [], b, h => trivial
  | r :: l, b, h => ⟨by have := h 0 r rfl; rwa [Nat.zero_add] at this, holdR_rowsAt fun q r' hq => by
      have := h (q + 1) r' (by simpa using hq)
      rwa [show q + 1 + b = q + (b + 1) by omega] at this⟩
theorem rowsAt_mem {p : Nat × Row} : ∀ {l : List Row} {b : Nat}, p ∈ rowsAt b l → ∃ q, l[q]? = some p.2 ∧ p.1 = q + b
  | [], b, h => by simp [rowsAt] at h
  | r :: l, b, h => by
    simp only [rowsAt, List.mem_cons] at h
    rcases h with rfl | h
    · exact ⟨0, rfl, by simp⟩
    · obtain ⟨q, h1, h2⟩ := rowsAt_mem h
      exact ⟨q + 1, by simpa using h1, by omega⟩
end Go.Proofs.YtaonccobohiiiaaDoor
