/- Walking without memory: a nil slice as a row of the call's own. No program is named here. -/
import Derived.Test.YtaonccobohiiiaaDoorVC
namespace Go.Proofs.YtaonccobohiiiaaDoor
open Go.RowKit

theorem Sim.nilRow {x : Ctx} {s : St} {a : Act} {w : World} {m : Mem} (h : Sim x s a w m) (r t : Nat) (e : TypeId) (sz : Nat) (hsz : 0 < sz) (ht : s.f t = .lit (.slice none 0 0)) :
    Sim x ((s.renew r ⟨sz, [], e, true⟩ false).put (some t) (.row r (s.vs r + 1))) a w ⟨m.S, upd m.ρ r (.slice none 0 0)⟩ := by
  have h1 := h.renew r ⟨sz, [], e, true⟩ false (.slice none 0 0) m.S (Below.refl _ _) (fun b o hh => ⟨hh, .rfl⟩) (fun b o hh => .inl hh) (fun k row' hk hr g hg => ⟨rfl, by simp [Value.ownBlock], fun o hh => hh⟩)
    (.inl ⟨hsz, fun i e' he => by simp at he, ⟨[], by simp only [upd_same]; exact World.ownsRow_nil _ _ _ _, by simp, fun i j c hc => by simp [cellAt] at hc⟩, (fun he => by simp [St.renew, upd_same] at he), (fun g hg => by simp [upd_same, Value.ownBlock] at hg), (fun _ g hg => by simp [upd_same, Value.ownBlock] at hg)⟩) (fun b _ => ⟨rfl, fun _ hh => hh, by simp [Value.ownBlock]⟩)
  refine { h1 with dfs := h1.dfs, siz := h1.siz, slot := fun t' => ?_, rows := fun r' row hr => ?_ }
  · have key : RL w ⟨m.S, upd m.ρ r (.slice none 0 0)⟩ (s.renew r ⟨sz, [], e, true⟩ false) (a.tmps.getD t' undef) (upd (s.renew r ⟨sz, [], e, true⟩ false).f t (.row r (s.vs r + 1)) t') := by
      by_cases e1 : t' = t
      · subst e1
        rw [upd_same]
        have hv := h.slot t'
        rw [ht] at hv
        have hv := hv.lit_
        rw [hv]
        exact .row r (s.vs r + 1) rfl (by simp [St.renew, upd_same]) fun _ row _ => by simp [upd_same]
      · rw [upd_ne _ _ _ e1]
        exact h1.slot t'
    exact RL.put key (some t) _
  · exact (h1.rows r' row hr).mono (s' := (s.renew r ⟨sz, [], e, true⟩ false).put (some t) (.row r (s.vs r + 1))) (fun b o hb => ⟨hb, .rfl⟩) (fun _ => Nat.le_refl _) (fun r row' _ hr => ⟨row', hr, rfl, rfl⟩) rfl (fun _ _ => rfl) rfl (fun _ _ _ hh => hh)
section
variable {P : Program} {env : Env} {nt : Nat} {Q : Exit → St → Prop} {s : St}
/-- A slot that holds nil holds an empty row. -/
theorem awp_nilrow {c : Code} (r t : Nat) (e : TypeId) (sz : Nat) (h : awp P env nt c Q ((s.renew r ⟨sz, [], e, true⟩ false).put (some t) (.row r (s.vs r + 1)))) (hsz : 0 < sz := by decide) (ht : Is (s.f t) (.lit (.slice none 0 0)) := by simp only [go_sem, reduceIte, ↓reduceIte, Nat.reduceEqDiff, reduceCtorEq]; exact iR) : awp P env nt c Q s :=
  fun ro x he hn a w _ hS => h ro x he hn a w _ (hS.nilRow r t e sz hsz ht)
theorem RStr.own_nil (e : TypeId) (sz : Nat) (hsz : 0 < sz) : RStr (.lit (.slice none 0 0)) (.own e sz []) := fun S w base v hr => by
  have hv : v = .slice none 0 0 := by
    have hr : RV S w v (.lit (.slice none 0 0)) := hr
    cases hr
    rfl
  subst hv
  exact ⟨[], World.ownsRow_nil _ _ _ _, hsz, ⟨by simp, by simp, fun i e he => by simp at he, fun i j c hc => by simp [cellAt] at hc⟩, fun g hg => by simp [Value.ownBlock] at hg⟩
end
end Go.Proofs.YtaonccobohiiiaaDoor
