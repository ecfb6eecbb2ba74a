/- Walking without memory: a row of the call's own by another name. No program is named here. -/
import Derived.Test.YtbnanjcghhfcpaaDoorVD
namespace Go.Proofs.YtbnanjcghhfcpaaDoor
open Go.RowKit

theorem Sim.rename {x : Ctx} {s : St} {a : Act} {w : World} {m : Mem} (h : Sim x s a w m) (r r2 t : Nat) (row : Row) (hne : r2 ≠ r) (hr : s.rows r = some row) (hp : row.pure = true) (ht : s.f t = .row r (s.vs r)) :
    Sim x ((({ s with rows := upd s.rows r none } : St).renew r2 row (s.esc r)).put (some t) (.row r2 (s.vs r2 + 1))) a w ⟨m.S, upd m.ρ r2 (m.ρ r)⟩ := by
  have k := h.rows r row hr
  have h0 : Sim x { s with rows := upd s.rows r none } a w m := h.less ⟨fun _ => .inl rfl, fun q => by
    by_cases e : q = r
    · right; simp [e, upd_same]
    · left; simp [upd_ne _ _ _ e], rfl, rfl⟩
  have hr0 : ∀ q row', ({ s with rows := upd s.rows r none } : St).rows q = some row' → q ≠ r ∧ s.rows q = some row' := fun q row' hq => by
    by_cases e : q = r
    · subst e; simp [upd_same] at hq
    · exact ⟨e, by simpa [upd_ne _ _ _ e] using hq⟩
  have h1 := h0.renew r2 row (s.esc r) (m.ρ r) m.S (Below.refl _ _) (fun b o hh => ⟨hh, rfl⟩) (fun b o hh => .inl hh) (fun q row' hq hrq g hg => by
      obtain ⟨e1, e2⟩ := hr0 q row' hrq
      exact ⟨rfl, fun e => h.inj r q row row' hr e2 (Ne.symm e1) g e hg, fun o hh => hh⟩)
    ⟨k.pos, k.len, (by
      obtain ⟨xs, k1, k2, k3⟩ := k.own
      refine ⟨xs, by simp only [upd_same]; exact k1, k2, fun i j c hc => ?_⟩
      obtain ⟨u, u1, u2⟩ := k3 i j c hc
      rw [if_pos hp] at u2
      exact ⟨u, u1, by rw [if_pos hp]; exact u2⟩), (fun he g hg o ho => by
      simp only [upd_same, St.renew] at he hg
      exact k.esc he g hg o ho), (fun g hg o ho => by
      simp only [upd_same] at hg
      exact k.spare g hg o ho), (fun he g hg o => by
      simp only [upd_same, St.renew] at he hg
      exact k.fresh he g hg o)⟩ (fun b hf => ⟨rfl, fun _ hh => hh, fun e => h.nofx r row hr b e hf⟩)
  have hv := h.slot t
  rw [ht] at hv
  have hv1 : a.tmps.getD t undef = m.ρ r := hv.row_.2 rfl row hr
  have h1c : (m.ρ r).oneCell' = true := by
    obtain ⟨xs, k1, _⟩ := k.own
    rcases k1.2 with ⟨e, _⟩ | ⟨g, cap, cur, e, _⟩ <;> rw [e] <;> rfl
  refine { h1 with dfs := h1.dfs, siz := h1.siz, slot := fun t' => ?_, rows := fun r' row' hr' => ?_ }
  · have key : RL w ⟨m.S, upd m.ρ r2 (m.ρ r)⟩ (({ s with rows := upd s.rows r none } : St).renew r2 row (s.esc r)) (a.tmps.getD t' undef) (upd (({ s with rows := upd s.rows r none } : St).renew r2 row (s.esc r)).f t (.row r2 (s.vs r2 + 1)) t') := by
      by_cases e1 : t' = t
      · subst e1
        rw [upd_same, hv1]
        exact .row r2 (s.vs r2 + 1) h1c (by simp [St.renew, upd_same]) fun _ row _ => by simp [upd_same]
      · rw [upd_ne _ _ _ e1]
        exact h1.slot t'
    exact RL.put key (some t) _
  · have k' := h1.rows r' row' hr'
    refine { k' with own := ?_ }
    obtain ⟨xs, k1, k2, k3⟩ := k'.own
    refine ⟨xs, k1, k2, fun i j c' hc => ?_⟩
    obtain ⟨u, k4, k5⟩ := k3 i j c' hc
    refine ⟨u, k4, ?_⟩
    split at k5
    · rename_i hp'; rw [if_pos hp']; exact k5
    · rename_i hp'; rw [if_neg hp']; exact RL.put k5 (some t) _
section
variable {P : Program} {env : Env} {nt : Nat} {Q : Exit → St → Prop} {s : St}
/-- The row that a slot holds goes by another name from here on. -/
theorem awp_rename {c : Code} {s1 : St} (r r2 t : Nat) (row : Row) (hne : r2 ≠ r) (hp : row.pure = true) (hr : Is (s.rows r) (some row)) (ht : Is (s.f t) (.row r (s.vs r)))
    (h1 : Is ((({ s with rows := upd s.rows r none } : St).renew r2 row (s.esc r)).put (some t) (.row r2 (s.vs r2 + 1))) s1) (h : awp P env nt c Q s1) : awp P env nt c Q s :=
  fun x he hn a w _ hS => h x he hn a w _ (by
    have := hS.rename r r2 t row hne hr hp ht
    rw [show _ = s1 from h1] at this
    exact this)
end
end Go.Proofs.YtbnanjcghhfcpaaDoor
