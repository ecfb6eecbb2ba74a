/- Walking without memory: a row that a slot holds, seen as a list, at a round's end; ways that meet again. No program is named here. -/
import Derived.Test.YtaonccobohiiiaaDoorVT
namespace Go.Proofs.YtaonccobohiiiaaDoor
open Go.RowKit

theorem Turned.frozen {s : St} (r t : Nat) (row : Row) (hp : row.pure = true) (hrz : row.sz ≠ 0) (hr : s.rows r = some row) (ht : s.f t = .row r (s.vs r)) : Turned s ((s.show r).put (some t) (.seq row.sz row.es)) := fun x a w m hS => by
  obtain ⟨S', q1, q2, q3⟩ := hS.show r row hr hrz hp
  have hv := hS.slot t
  rw [ht] at hv
  have hv1 : a.tmps.getD t undef = m.ρ r := hv.row_.2 rfl row hr
  exact ⟨_, q1.tell t (.seq row.sz row.es) (by rw [hv1]; exact .val q3)⟩
theorem Turned.nil {s : St} (t sz : Nat) (ht : s.f t = .lit (.slice none 0 0)) : Turned s (s.put (some t) (.seq sz [])) := fun x a w m hS => by
  have hv := hS.slot t
  rw [ht] at hv
  have hv1 := hv.lit_
  exact ⟨_, hS.tell t (.seq sz []) (by rw [hv1]; exact .val (Str.nil sz _ _ _ (.lit _)))⟩
section
variable {P : Program} {env : Env} {nt : Nat} {s : St}
/-- The ways out of a part meet again. -/
theorem awp_mid {c rest : Code} {Q' : Exit → St → Prop} {D : Type} (F : D → (Nat → Nat) → List (Nat × AV)) (R : D → (Nat → Nat) → List (Nat × Row)) (inv : D → (Nat → Nat) → (Nat → Bool) → Prop)
    (h1 : awp P env nt c (thenA (fun s => ∃ d, inv d s.vs s.esc ∧ HoldF s (F d s.vs) ∧ HoldR s (R d s.vs)) Q') s) (h2 : ∀ d vs esc, inv d vs esc → awp P env nt rest Q' (head (F d vs) (R d vs) vs esc)) :
    awp P env nt c (thenA (awp P env nt rest Q') Q') s :=
  awp_mono h1 fun e s hq => by
    cases e with
    | normal =>
      obtain ⟨d, q1, q2, q3⟩ := hq
      exact awp_head _ _ q2 q3 (h2 d _ _ q1)
    | _ => exact hq
end
/-- A scope (of labels) that no jump leaves. -/
def noGotoA (Q : Exit → St → Prop) : Exit → St → Prop
  | .goto _, _ => False
  | e, s => Q e s
theorem stepR_scope9 {P : Program} {b : Frame} {a : Act} {k : List Item} {cs : List Frame} {w : World} {c : Code} : step P (lone (b.atR a (.code (.scope c) :: k)) cs w) = .next (lone (b.atR a (.code c :: .inScope c :: k)) cs w) :=
  step_lone_go (by simp [stepG, stepG.exec, Frame.atR])
theorem stepR_inScope9 {P : Program} {b : Frame} {a : Act} {k : List Item} {cs : List Frame} {w : World} {c : Code} : step P (lone (b.atR a (.inScope c :: k)) cs w) = .next (lone (b.atR a k) cs w) :=
  step_lone_go (by simp [stepG, stepG.exec, Frame.atR])
theorem wpIn_scope9 {F : Fence} {n : Nat} {P : Program} {Q : Exit → Act → World → Prop} {a : Act} {w : World} {c : Code} (h : c.wpIn F n P (Exit.noGoto Q) a w) : (Code.scope c).wpIn F n P Q a w := by
  intro b k cs hro hb hr
  have h0 : (lone (b.atR a (.code (.scope c) :: k)) cs w).fenced P F := fenced_calm hb hr rfl
  obtain ⟨e, a₁, w₁, hq, harr⟩ := h b (.inScope c :: k) cs hro hb hr
  cases e with
  | normal => exact ⟨.normal, a₁, w₁, hq, .head h0 stepR_scope9 (StepsIn.trans harr (.one (fenced_calm hb hr rfl) stepR_inScope9))⟩
  | exit id =>
    have hx : exitTo id (.inScope c :: k) = exitTo id k := by simp [exitTo]
    exact ⟨.exit id, a₁, w₁, hq, fun k' hk => .head h0 stepR_scope9 (harr.1 k' (by rw [hx]; exact hk)),
        fun hr' hk => let ⟨k₁, h1, h2⟩ := harr.2 hr' (by rw [hx]; exact hk); ⟨k₁, h1, .head h0 stepR_scope9 h2⟩⟩
  | goto l => exact hq.elim
  | ret => exact ⟨_, a₁, w₁, hq, .of_steps (.one h0 stepR_scope9) harr⟩
  | panic ch => exact ⟨_, a₁, w₁, hq, .of_steps (.one h0 stepR_scope9) harr⟩
  | outgrown => exact ⟨_, a₁, w₁, hq, .of_steps (.one h0 stepR_scope9) harr⟩
theorem awp_scope {P : Program} {env : Env} {nt : Nat} {Q : Exit → St → Prop} {s : St} {c : Code} (h : awp P env nt c (noGotoA Q) s) : awp P env nt (.scope c) Q s := fun ro x he hn a w m hS =>
  wpIn_scope9 (wpIn_mono (h ro x he hn a w m hS) fun e a' w' ⟨s', m', q, hs⟩ => by
    cases e with
    | goto l => exact q.elim
    | _ => exact ⟨s', m', q, hs⟩)
end Go.Proofs.YtaonccobohiiiaaDoor
