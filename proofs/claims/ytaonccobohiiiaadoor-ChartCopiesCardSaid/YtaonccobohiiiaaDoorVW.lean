/- Walking without memory: rows that are not there, rows seen. No program is named here. -/
import Derived.Test.YtaonccobohiiiaaDoorVR
namespace Go.Proofs.YtaonccobohiiiaaDoor
open Go.RowKit

/-- Where there is no row, nobody has seen one. -/
theorem Sim.clean {x : Ctx} {s : St} {a : Act} {w : World} {m : Mem} (h : Sim x s a w m) (r : Nat) (hr : s.rows r = none) : Sim x { s with esc := upd s.esc r false } a w m := by
  have hk : ∀ k row', s.vs k = s.vs k → s.rows k = some row' → ∃ row, s.rows k = some row ∧ row.sz = row'.sz ∧ m.ρ k = m.ρ k := fun k row' _ hh => ⟨row', hh, rfl, rfl⟩
  refine { h with slot := fun t => (h.slot t).mono (s' := { s with esc := upd s.esc r false }) (fun b o hb => ⟨hb, .rfl⟩) (fun _ => Nat.le_refl _) hk, rows := fun k row hh => ?_ }
  have hne : k ≠ r := fun e => by rw [e] at hh; exact absurd (hr.symm.trans hh) (by simp)
  exact (h.rows k row hh).mono (s' := { s with esc := upd s.esc r false }) (fun b o hb => ⟨hb, .rfl⟩) (fun _ => Nat.le_refl _) hk rfl (fun _ _ => rfl) (upd_ne _ _ _ hne) (fun _ _ _ hh => hh)
theorem awp_clean {P : Program} {env : Env} {nt : Nat} {c : Code} {Q : Exit → St → Prop} {s : St} (r : Nat) (hr : s.rows r = none) (h : awp P env nt c Q { s with esc := upd s.esc r false }) : awp P env nt c Q s :=
  fun ro x hx hn a w m hS => h ro x hx hn a w m (hS.clean r hr)
end Go.Proofs.YtaonccobohiiiaaDoor
