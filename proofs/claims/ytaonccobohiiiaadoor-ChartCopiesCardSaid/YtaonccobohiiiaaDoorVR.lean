/- Walking without memory: a row of the call's own by another name. No program is named here. -/
import Derived.Test.YtaonccobohiiiaaDoorVD
namespace Go.Proofs.YtaonccobohiiiaaDoor
open Go.RowKit

theorem Sim.rename {x : Ctx} {s : St} {a : Act} {w : World} {m : Mem} (h : Sim x s a w m) (r r2 t : Nat) (row : Row) (hne : r2 ≠ r) (hr : s.rows r = some row) (hrz : row.sz ≠ 0) (hp : row.pure = true) (ht : s.f t = .row r (s.vs r)) :
    Sim x ((({ s with rows := upd s.rows r none } : St).renew r2 row (s.esc r)).put (some t) (.row r2 (s.vs r2 + 1))) a w ⟨m.S, upd m.ρ r2 (m.ρ r)⟩ := by
  have k := (h.rows r row hr).cells hrz
  have h0 : Sim x { s with rows := upd s.rows r none } a w m := h.less ⟨fun _ => .inl rfl, fun q => by
    by_cases e : q = r
    · right; simp [e, upd_same]
    · left; simp [upd_ne _ _ _ e], rfl, rfl⟩
  have hr0 : ∀ q row', ({ s with rows := upd s.rows r none } : St).rows q = some row' → q ≠ r ∧ s.rows q = some row' := fun q row' hq => by
    by_cases e : q = r
    · subst e; simp [upd_same] at hq
    · exact ⟨e, by simpa [upd_ne _ _ _ e] using hq⟩
  have h1 := h0.renew r2 row (s.esc r) (m.ρ r) m.S (Below.refl _ _) (fun b o hh => ⟨hh, .rfl⟩) (fun b o hh => .inl hh) (fun q row' hq hrq g hg => by
      obtain ⟨e1, e2⟩ := hr0 q row' hrq
      exact ⟨rfl, fun e => h.inj r q row row' hr e2 (Ne.symm e1) g e hg, fun o hh => hh⟩)
    (.inl ⟨k.pos, k.len, (by
      obtain ⟨xs, k1, k2, k3⟩ := k.own
      refine ⟨xs, by simp only [upd_same]; exact k1, k2, fun i j c hc => ?_⟩
      obtain ⟨u, u1, u2⟩ := k3 i j c hc
      rw [if_pos hp] at u2
      exact ⟨u, u1, by rw [if_pos hp]; exact u2⟩), (fun he g hg o ho => by
      simp only [upd_same, St.renew] at he hg
      exact k.esc he g hg o ho), (fun g hg o ho => by
      simp only [upd_same] at hg
      exact k.spare g hg o ho), (fun he g hg o => by
      simp only [upd_same, St.renew] at he hg
      exact k.fresh he g hg o)⟩) (fun b hf => ⟨rfl, fun _ hh => hh, fun e => h.nofx r row hr b e hf⟩)
  have hv := h.slot t
  rw [ht] at hv
  have hv1 : a.tmps.getD t undef = m.ρ r := hv.row_.2 rfl row hr
  have h1c : (m.ρ r).oneCell' = true := by
    obtain ⟨xs, k1, _⟩ := k.own
    rcases k1.2 with ⟨e, _⟩ | ⟨g, cap, cur, e, _⟩ <;> rw [e] <;> rfl
  refine { h1 with dfs := h1.dfs, siz := h1.siz, slot := fun t' => ?_, rows := fun r' row' hr' => ?_ }
  · have key : RL w ⟨m.S, upd m.ρ r2 (m.ρ r)⟩ (({ s with rows := upd s.rows r none } : St).renew r2 row (s.esc r)) (a.tmps.getD t' undef) (upd (({ s with rows := upd s.rows r none } : St).renew r2 row (s.esc r)).f t (.row r2 (s.vs r2 + 1)) t') := by
      by_cases e1 : t' = t
      · subst e1
        rw [upd_same, hv1]
        exact .row r2 (s.vs r2 + 1) h1c (by simp [St.renew, upd_same]) fun _ row _ => by simp [upd_same]
      · rw [upd_ne _ _ _ e1]
        exact h1.slot t'
    exact RL.put key (some t) _
  · exact (h1.rows r' row' hr').mono (s' := (({ s with rows := upd s.rows r none } : St).renew r2 row (s.esc r)).put (some t) (.row r2 (s.vs r2 + 1))) (fun b o hb => ⟨hb, .rfl⟩) (fun _ => Nat.le_refl _) (fun r row' _ hr => ⟨row', hr, rfl, rfl⟩) rfl (fun _ _ => rfl) rfl (fun _ _ _ hh => hh)
/-- What a slot holds, told anew. -/
theorem Sim.tell {x : Ctx} {s : St} {a : Act} {w : World} {m : Mem} (h : Sim x s a w m) (t : Nat) (c : AV) (hc : RL w m s (a.tmps.getD t undef) c) : Sim x (s.put (some t) c) a w m := by
  refine { h with dfs := h.dfs, siz := h.siz, slot := fun t' => ?_, rows := fun r' row' hr' => ?_ }
  · have key : RL w m s (a.tmps.getD t' undef) (upd s.f t c t') := by
      by_cases e1 : t' = t
      · subst e1
        rw [upd_same]
        exact hc
      · rw [upd_ne _ _ _ e1]
        exact h.slot t'
    exact RL.put key (some t) _
  · exact (h.rows r' row' hr').mono (s' := s.put (some t) c) (fun b o hb => ⟨hb, .rfl⟩) (fun _ => Nat.le_refl _) (fun r row' _ hr => ⟨row', hr, rfl, rfl⟩) rfl (fun _ _ => rfl) rfl (fun _ _ _ hh => hh)
section
variable {P : Program} {env : Env} {nt : Nat} {Q : Exit → St → Prop} {s : St}
/-- The row that a slot holds goes by another name from here on. -/
theorem awp_rename {c : Code} {s1 : St} (r r2 t : Nat) (row : Row) (hne : r2 ≠ r) (hp : row.pure = true) (hrz : row.sz ≠ 0) (hr : Is (s.rows r) (some row)) (ht : Is (s.f t) (.row r (s.vs r)))
    (h1 : Is ((({ s with rows := upd s.rows r none } : St).renew r2 row (s.esc r)).put (some t) (.row r2 (s.vs r2 + 1))) s1) (h : awp P env nt c Q s1) : awp P env nt c Q s :=
  fun ro x he hn a w _ hS => h ro x he hn a w _ (by
    have := hS.rename r r2 t row hne hr hrz hp ht
    rw [show _ = s1 from h1] at this
    exact this)
/-- A row that a slot holds, seen as a list from here on; it turns no more. -/
theorem awp_frozen {c : Code} {s1 : St} (r t : Nat) (row : Row) (hp : row.pure = true) (hrz : row.sz ≠ 0) (hr : Is (s.rows r) (some row)) (ht : Is (s.f t) (.row r (s.vs r)))
    (h1 : Is ((s.show r).put (some t) (.seq row.sz row.es)) s1) (h : awp P env nt c Q s1) : awp P env nt c Q s :=
  fun ro x he hn a w m hS => by
    have hr : s.rows r = some row := hr
    have ht : s.f t = .row r (s.vs r) := ht
    obtain ⟨S', q1, q2, q3⟩ := hS.show r row hr hrz hp
    have hv := hS.slot t
    rw [ht] at hv
    have hv1 : a.tmps.getD t undef = m.ρ r := hv.row_.2 rfl row hr
    have := q1.tell t (.seq row.sz row.es) (by rw [hv1]; exact .val q3)
    rw [show _ = s1 from h1] at this
    exact h ro x he hn a w _ this
end

/-- A cell of a row that holds nil holds an empty row. -/
theorem Sim.nilCell {x : Ctx} {s : St} {a : Act} {w : World} {m : Mem} (h : Sim x s a w m) (r r2 i j : Nat) (row : Row) (e : List AV) (ty : TypeId) (sz : Nat) (hne : r2 ≠ r) (hsz : 0 < sz) (hr : s.rows r = some row) (hrz : row.sz ≠ 0) (hp : row.pure = false) (hi : row.es[i]? = some e) (hj : e[j]? = some (.lit (.slice none 0 0))) :
    Sim x ((s.renew r2 ⟨sz, [], ty, true⟩ false).setRow r { row with es := row.es.set i (e.set j (.row r2 (s.vs r2 + 1))) }) a w ⟨m.S, upd m.ρ r2 (.slice none 0 0)⟩ := by
  have h1 := h.renew r2 ⟨sz, [], ty, true⟩ false (.slice none 0 0) m.S (Below.refl _ _) (fun b o hh => ⟨hh, .rfl⟩) (fun b o hh => .inl hh) (fun k row' hk hr g hg => ⟨rfl, by simp [Value.ownBlock], fun o hh => hh⟩)
    (.inl ⟨hsz, fun i e' he => by simp at he, ⟨[], by simp only [upd_same]; exact World.ownsRow_nil _ _ _ _, by simp, fun i j c hc => by simp [cellAt] at hc⟩, (fun he => by simp [St.renew, upd_same] at he), (fun g hg => by simp [upd_same, Value.ownBlock] at hg), (fun _ g hg => by simp [upd_same, Value.ownBlock] at hg)⟩) (fun b _ => ⟨rfl, fun _ hh => hh, by simp [Value.ownBlock]⟩)
  have hr1 : (s.renew r2 ⟨sz, [], ty, true⟩ false).rows r = some row := by simpa only [St.renew, upd_ne _ _ _ (Ne.symm hne)] using hr
  have k := (h1.rows r row hr1).cells hrz
  have hil : i < row.es.length := (List.getElem?_eq_some_iff.1 hi).1
  have hz' : ∀ (p : Nat) (e' : List AV), (row.es.set i (e.set j (.row r2 (s.vs r2 + 1))))[p]? = some e' → e'.length = row.sz := fun p e' hpe => by
    rw [List.getElem?_set] at hpe
    by_cases ep : i = p
    · rw [if_pos ep, if_pos hil] at hpe
      cases hpe
      rw [List.length_set]
      exact k.len i e hi
    · rw [if_neg ep] at hpe
      exact k.len p e' hpe
  have hk : ∀ q row2, (({ s.renew r2 ⟨sz, [], ty, true⟩ false with } : St).setRow r { row with es := row.es.set i (e.set j (.row r2 (s.vs r2 + 1))) }).vs q = (s.renew r2 ⟨sz, [], ty, true⟩ false).vs q → ((s.renew r2 ⟨sz, [], ty, true⟩ false).setRow r { row with es := row.es.set i (e.set j (.row r2 (s.vs r2 + 1))) }).rows q = some row2 → ∃ row0, (s.renew r2 ⟨sz, [], ty, true⟩ false).rows q = some row0 ∧ row0.sz = row2.sz ∧ (upd m.ρ r2 (.slice none 0 0)) q = (upd m.ρ r2 (.slice none 0 0)) q := fun q row2 _ hq => by
    by_cases eq : q = r
    · subst eq
      simp only [St.setRow, upd_same, Option.some.injEq] at hq
      subst hq
      exact ⟨row, hr1, rfl, rfl⟩
    · simp only [St.setRow, upd_ne _ _ _ eq] at hq
      exact ⟨row2, hq, rfl, rfl⟩
  refine h1.reset r row { row with es := row.es.set i (e.set j (.row r2 (s.vs r2 + 1))) } hr1 rfl (Below.refl _ _) (fun _ _ _ => .rfl) (fun _ _ _ _ _ _ => rfl) (.inl ⟨k.pos, hz', ?_, fun he g hg o ho => ?_, fun g hg o ho => ?_, fun he g hg o => ?_⟩) (fun _ _ => rfl)
  · obtain ⟨xs, k1, k2, k3⟩ := k.own
    refine ⟨xs, by simpa only [List.length_set] using k1, k2, fun p q c hc => ?_⟩
    show ∃ u, xs[p * row.sz + q]? = some u ∧ if row.pure = true then _ else _
    have old : ∀ c', cellAt row.es p q = some c' → c' = c → ∃ u, xs[p * row.sz + q]? = some u ∧ (if row.pure = true then RV m.S w u c else RL w ⟨m.S, upd m.ρ r2 (.slice none 0 0)⟩ ((s.renew r2 ⟨sz, [], ty, true⟩ false).setRow r { row with es := row.es.set i (e.set j (.row r2 (s.vs r2 + 1))) }) u c) := fun c' hc' ec => by
      subst ec
      obtain ⟨u, u1, u2⟩ := k3 p q c' hc'
      refine ⟨u, u1, ?_⟩
      rw [if_neg (by simp [hp])] at u2 ⊢
      exact u2.mono (fun b o hb => ⟨hb, .rfl⟩) (fun _ => Nat.le_refl _) hk
    unfold cellAt at hc
    rw [List.getElem?_set] at hc
    by_cases ep : i = p
    · subst ep
      rw [if_pos rfl, if_pos hil] at hc
      simp only [Option.bind_some, List.getElem?_set] at hc
      by_cases eq : j = q
      · subst eq
        have hjl : j < e.length := (List.getElem?_eq_some_iff.1 hj).1
        rw [if_pos rfl, if_pos hjl] at hc
        cases hc
        obtain ⟨u, u1, u2⟩ := k3 i j (.lit (.slice none 0 0)) (by unfold cellAt; rw [hi]; exact hj)
        refine ⟨u, u1, ?_⟩
        rw [if_neg (by simp [hp])] at u2 ⊢
        rw [u2.lit_]
        exact .row r2 (s.vs r2 + 1) rfl (by simp [St.setRow, St.renew, upd_same]) fun _ row _ => by simp [upd_same]
      · rw [if_neg eq] at hc
        exact old c (by unfold cellAt; rw [hi]; exact hc) rfl
    · rw [if_neg ep] at hc
      exact old c hc rfl
  · simp only [List.length_set] at ho
    exact k.esc he g hg o ho
  · simp only [List.length_set] at ho
    exact k.spare g hg o ho
  · exact k.fresh he g hg o
section
variable {P : Program} {env : Env} {nt : Nat} {Q : Exit → St → Prop} {s : St}
theorem awp_nilcell {c : Code} {s1 : St} (r r2 i j : Nat) (row : Row) (e : List AV) (ty : TypeId) (sz : Nat) (hne : r2 ≠ r) (hsz : 0 < sz) (hrz : row.sz ≠ 0) (hp : row.pure = false) (hi : row.es[i]? = some e) (hj : e[j]? = some (.lit (.slice none 0 0))) (hr : Is (s.rows r) (some row))
    (h1 : Is ((s.renew r2 ⟨sz, [], ty, true⟩ false).setRow r { row with es := row.es.set i (e.set j (.row r2 (s.vs r2 + 1))) }) s1) (h : awp P env nt c Q s1) : awp P env nt c Q s :=
  fun ro x he hn a w _ hS => h ro x he hn a w _ (by
    have := hS.nilCell r r2 i j row e ty sz hne hsz hr hrz hp hi hj
    rw [show _ = s1 from h1] at this
    exact this)
end

/-- A call with one empty list, whatever it is in memory. -/
theorem Con.empty {P : Program} {env : Env} {f : FuncId} {sz : Nat} {res : AV} (h : ∀ A cap, Con P env f [.lit (.slice A 0 cap)] res) : Con P env f [.seq sz []] res := by
  refine ⟨(h none 0).enter, fun w S vs hE hl hv => ?_⟩
  match vs, hl with
  | [v], _ =>
    have h0 : RV S w v (.seq sz []) := hv 0 v _ rfl rfl
    have hx : ∃ A cap, v = .slice A 0 cap := by
      generalize he : ([] : List (List AV)) = es at h0
      cases h0 with
      | seq A n cap sz es b o u hn =>
        subst he
        simp only [List.length_nil] at hn
        subst hn
        exact ⟨A, cap, rfl⟩
    obtain ⟨A, cap, rfl⟩ := hx
    refine (h A cap).calls w S [.slice A 0 cap] hE rfl fun i v c h1 h2 => ?_
    match i, h1, h2 with
    | 0, h1, h2 => cases h1; cases h2; exact .lit _
end Go.Proofs.YtaonccobohiiiaaDoor
