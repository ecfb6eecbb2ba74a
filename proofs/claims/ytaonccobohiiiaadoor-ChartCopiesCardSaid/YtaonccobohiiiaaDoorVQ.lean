/- Rows that freeze and are told to be new; calls whose bodies put rows aside. No program is named here. -/
import Derived.Test.YtaonccobohiiiaaDoorVP
import Derived.Test.YtaonccobohiiiaaDoorVI
namespace Go.Proofs.YtaonccobohiiiaaDoor
open Go.RowKit

def newsOf (n : Nat) : AV → AV
  | .seq sz es => .news n sz es
  | c => c
def newsL (n : Nat) (L : List (Nat × Nat × AV)) : List (Nat × Nat × AV) := L.map fun p => (p.1, p.2.1, newsOf n p.2.2)
def newsSt (s : St) (n : Nat) (L : List (Nat × Nat × AV)) : St := ⟨fun t => (s.f t).see (seeAt (newsL n L)) fun _ _ => none, fun r => (s.rows r).map (Row.see (seeAt (newsL n L)) fun _ _ => none), s.vs, fun r => s.esc r || L.any fun p => p.1 == r⟩
theorem Sim.news {x : Ctx} {s : St} {a : Act} {w : World} {m : Mem} (h : Sim x s a w m) (n : Nat) (hn : n ≤ x.w.heap.size) (L : List (Nat × Nat × AV)) (hL : SeesOk s L) : ∃ S', Sim x (newsSt s n L) a w ⟨S', m.ρ⟩ := by
  obtain ⟨S', k1, k2, k3⟩ := h.shows L hL
  refine ⟨S', Sim.seen (m := ⟨S', m.ρ⟩) (s' := newsSt s n L) (g := seeAt (newsL n L)) (gm := fun _ _ => none) S' k1 (fun _ _ h => h) (fun _ _ h => .inl h) rfl (fun t => rfl) (fun r row' hr => ?_) (fun r ver y hy v hv => ?_) (fun _ _ _ hy => by cases hy) fun _ _ _ h => h⟩
  · simp only [newsSt] at hr
    cases hq : s.rows r with
    | none => rw [hq] at hr; cases hr
    | some row =>
      rw [hq] at hr
      cases hr
      exact ⟨row, by first | exact hq | rfl, rfl, rfl, fun _ _ _ h => h⟩
  · obtain ⟨p, hp, he⟩ := List.mem_map.1 (seeAt_mem hy)
    obtain ⟨e1, row, e2, e3, e4, e5⟩ := hL p hp
    simp only [Prod.mk.injEq] at he
    obtain ⟨rfl, rfl, rfl⟩ := he
    have := hv.row_.2 e1 row e2
    rw [this]
    have hk := k3 p hp
    rw [e5] at hk ⊢
    obtain ⟨xs, q1, _⟩ := ((h.rows p.1 row e2).cells e3).own
    have hsl : ∃ A k cap, m.ρ p.1 = .slice A k cap ∧ ∀ a, A = some a → n ≤ a.block := by
      rcases q1.2 with ⟨e, _⟩ | ⟨g, cap, cur, e, hb, _⟩
      · exact ⟨none, 0, 0, e, fun _ h => by cases h⟩
      · exact ⟨_, _, _, e, fun a ha => by cases ha; exact Nat.le_trans hn hb⟩
    obtain ⟨A, k, cap, hA, hb⟩ := hsl
    have hk : RV S' w (m.ρ p.1) (.seq row.sz row.es) := hk
    show RL w ⟨S', m.ρ⟩ _ (m.ρ p.1) (.news n row.sz row.es)
    rw [hA] at hk ⊢
    exact .val (.news A n k cap _ _ hb hk)
theorem awp_news {P : Program} {env : Env} {nt : Nat} {c : Code} {Q : Exit → St → Prop} {s : St} (n : Nat) (hinv : ∀ W, env.inv W → n ≤ W.heap.size) (R : List (Nat × Row)) (hR : HoldR s R) (h : awp P env nt c Q (newsSt s n (seesR s.vs R))) (hp : (R.all fun p => p.2.pure && p.2.sz != 0) = true := by rfl) : awp P env nt c Q s := fun ro x hx hn a w m hS => by
  obtain ⟨S', k⟩ := hS.news n (hinv _ (hx ▸ hS.einv)) (seesR s.vs R) (fun q hq => by
    obtain ⟨p, h1, rfl⟩ := List.mem_map.1 hq
    have := List.all_eq_true.1 hp p h1
    rw [Bool.and_eq_true, bne_iff_ne] at this
    exact ⟨rfl, p.2, holdR_mem hR p h1, this.2, this.1, rfl⟩)
  exact h ro x hx hn a w _ k
/-- The same, the state told anew. -/
theorem awp_newsH {P : Program} {env : Env} {nt : Nat} {c : Code} {Q : Exit → St → Prop} {s : St} (n : Nat) (hinv : ∀ W, env.inv W → n ≤ W.heap.size) (R0 : List (Nat × Row)) (F : (Nat → Nat) → List (Nat × AV)) (R : (Nat → Nat) → List (Nat × Row)) (inv : (Nat → Bool) → Prop) (hR0 : HoldR s R0)
    (hF : HoldF (newsSt s n (seesR s.vs R0)) (F s.vs)) (hR : HoldR (newsSt s n (seesR s.vs R0)) (R s.vs)) (hi : inv (newsSt s n (seesR s.vs R0)).esc) (h : ∀ vs esc, inv esc → awp P env nt c Q (head (F vs) (R vs) vs esc)) (hp : (R0.all fun p => p.2.pure && p.2.sz != 0) = true := by rfl) : awp P env nt c Q s :=
  awp_news n hinv R0 hR0 (awp_head (F s.vs) (R s.vs) hF hR (h s.vs _ hi)) hp
/-- A place at which a walk halts. -/
structure Halt (p : Prop) : Prop where
  go : p
theorem awp_seqH {P : Program} {env : Env} {nt : Nat} {c d : Code} {Q : Exit → St → Prop} {s : St} (h : awp P env nt c (thenA (fun s1 => Halt (awp P env nt d Q s1)) Q) s) : awp P env nt (.seq c d) Q s := oS (awp_mono h fun e s1 h => by cases e <;> first | exact h.go | exact h)

/-! Calls -/
theorem side_row {x : Ctx} {s : St} {a : Act} {w : World} {m : Mem} (h : Sim x s a w m) {r : Nat} {row : Row} (hr : s.rows r = some row) (hrz : row.sz ≠ 0) (hp : row.pure = true) (he : s.esc r = false) : SideOk x.w.heap.size w m.S ⟨m.ρ r, row.e, row.sz, row.es⟩ := by
  have k := (h.rows r row hr).cells hrz
  obtain ⟨xs, k1, k2, k3⟩ := k.own
  refine ⟨k.pos, k.len, ⟨xs, k1, k2, fun i j c hc => ?_⟩, fun g hg o => k.fresh he g hg o⟩
  obtain ⟨u, q1, q2⟩ := k3 i j c hc
  rw [hp] at q2
  exact ⟨u, q1, q2⟩
theorem calls_of_bodyP {P : Program} {env : Env} {f : FuncId} {fn : Func} {c : Code} {cs : List AV} {Q : Exit → St → List Side → Prop} (hf : P.funcs[f]? = some fn) (hb : fn.body = some c) (hn : cs.length ≤ fn.ntmps)
    (h : awpP P env fn.ntmps c Q (St.init cs) []) (hno : ∀ e s L, Q e s L → Q .ret s L ∧ (e = .normal ∨ e = .ret)) {w : World} {S : Nat → Nat → Prop} {vs : List Value} (hE : EnvOk env S w) (hl : vs.length = cs.length) (hv : ∀ (i : Nat) (v : Value) (c : AV), vs[i]? = some v → cs[i]? = some c → RV S w v c) {R : Ending → World → Prop}
    (fin : ∀ s' L' a' w' m' x', Q .ret s' L' → x'.w = w → x'.S = S → Aside x' L' → Sim x' s' a' w' m' → ∃ v, (results fn a'.tmps).run P w' = .ok v w' ∧ R (.returned v) w') : Calls P f vs.toArray w R := by
  refine calls_of_wp hf hb ?_
  have hS : Sim ⟨w, S, env, fn.ntmps, w, ⟨S, fun _ => undef⟩, St.init cs, fun _ => False, []⟩ (St.init cs) { tmps := vs.toArray ++ Array.replicate (fn.ntmps - vs.toArray.size) undef, defers := [] } w ⟨S, fun _ => undef⟩ := by
    refine ⟨Below.refl _ _, hE.low, fun _ _ h => h, fun _ _ h => .inl h, hE.env, hE.low, hE.inv, rfl, by simp; omega, fun t => ?_, (fun r row hr => by cases hr), (fun r r' row row' hr => by cases hr), (fun _ _ hh => ⟨hh, .rfl⟩), (fun _ => Nat.le_refl _), (fun r row' _ hr => by cases hr), Nat.le_refl _, (fun _ h => h.elim), fun r row hr => by cases hr⟩
    show RL w _ _ _ (cs.getD t .any)
    by_cases ht : t < cs.length
    · refine .val (hv t _ _ ?_ ?_)
      · rw [Array.getD_eq_getD_getElem?, Array.getElem?_append_left (by simp; omega)]
        simp [show t < vs.length by omega]
      · simp [List.getD, ht]
    · have : cs.getD t .any = .any := by simp [List.getD, List.getElem?_eq_none (Nat.le_of_not_lt ht)]
      rw [this]
      exact .val (.any _)
  refine wpIn_wide.1 (wpIn_mono (h none _ rfl rfl (fun p hp => by cases hp) _ w _ hS) ?_)
  rintro e a' w' ⟨s', m', x', L', h1, hK, hA, h2⟩
  obtain ⟨hq, he⟩ := hno e s' L' h1
  obtain ⟨v, k1, k2⟩ := fin s' L' a' w' m' x' hq hK.w hK.S hA h2
  rcases he with rfl | rfl
  · exact ⟨h2.dfs.trans hK.df, v, k1, k2⟩
  · exact ⟨h2.dfs.trans hK.df, v, k1, k2⟩
end Go.Proofs.YtaonccobohiiiaaDoor
