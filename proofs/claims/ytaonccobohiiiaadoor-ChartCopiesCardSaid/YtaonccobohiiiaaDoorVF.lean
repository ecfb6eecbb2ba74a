/- Walking without memory: rows and maps of the call's own that freeze, wherever they are named; rows by other names. No program is named here. -/
import Derived.Test.YtaonccobohiiiaaDoorVI
import Derived.Test.YtaonccobohiiiaaDoorVW
namespace Go.Proofs.YtaonccobohiiiaaDoor
open Go.RowKit

/-- A value with other words for some of its rows and maps. -/
def AV.see (g gm : Nat → Nat → Option AV) : AV → AV
  | .row r ver => (g r ver).getD (.row r ver)
  | .mp r ver => (gm r ver).getD (.mp r ver)
  | .agg cs => .agg (seeL g gm cs)
  | .tuple cs => .tuple (seeL g gm cs)
  | .clo f cs => .clo f (seeL g gm cs)
  | c => c
where seeL (g gm : Nat → Nat → Option AV) : List AV → List AV
  | [] => []
  | c :: cs => c.see g gm :: seeL g gm cs
theorem seeL_len (g gm : Nat → Nat → Option AV) : ∀ cs, (AV.see.seeL g gm cs).length = cs.length
  | [] => rfl
  | c :: cs => by simp [AV.see.seeL, seeL_len g gm cs]
theorem seeL_at (g gm : Nat → Nat → Option AV) : ∀ (cs : List AV) (i : Nat) (c : AV), (AV.see.seeL g gm cs)[i]? = some c → ∃ c', cs[i]? = some c' ∧ c = c'.see g gm
  | [], i, c, h => by simp [AV.see.seeL] at h
  | d :: cs, i, c, h => by
    cases i with
    | zero => simp [AV.see.seeL] at h; exact ⟨d, rfl, h.symm⟩
    | succ i =>
      obtain ⟨c', h1, h2⟩ := seeL_at g gm cs i c (by simpa [AV.see.seeL] using h)
      exact ⟨c', by simpa using h1, h2⟩
theorem RV.see {S : Nat → Nat → Prop} {w : World} {v : Value} {c : AV} (g gm : Nat → Nat → Option AV) (h : RV S w v c) : RV S w v (c.see g gm) := by
  induction h with
  | any v => exact .any v
  | lit v => exact .lit v
  | agg vs cs h h1 hc ih =>
    refine .agg vs _ (by rw [seeL_len]; exact h) h1 fun i v c hv hcc => ?_
    obtain ⟨c', k1, rfl⟩ := seeL_at g gm cs i c hcc
    exact ih i v c' hv k1
  | tuple vs cs h hc ih =>
    refine .tuple vs _ (by rw [seeL_len]; exact h) fun i v c hv hcc => ?_
    obtain ⟨c', k1, rfl⟩ := seeL_at g gm cs i c hcc
    exact ih i v c' hv k1
  | iface t v c h ih => exact .iface t v c h
  | seq A n cap sz es b o u hn hcap hA hz hc hr ih => exact .seq A n cap sz es b o u hn hcap hA hz hc hr
  | ref sz es i off b o u hz hc hr ih => exact .ref sz es i off b o u hz hc hr
  | fmap g' ents clock es h0 hg hn hz hk hv _ _ => exact .fmap g' ents clock es h0 hg hn hz hk hv
  | full A n sz es h _ => exact .full A n sz es h
  | news A n k cap sz es hA h _ => exact .news A n k cap sz es hA h
  | clo f vs cs h hc ih =>
    refine .clo f vs _ (by rw [seeL_len]; exact h) fun i v c hv hcc => ?_
    obtain ⟨c', k1, rfl⟩ := seeL_at g gm cs i c hcc
    exact ih i v c' hv k1
section
variable {w : World} {m m' : Mem} {s s' : St} {g gm : Nat → Nat → Option AV}
theorem RL.see {v : Value} {c : AV} (hS : ∀ b o, m.S b o → m'.S b o) (keep : ∀ {v : Value} {c : AV}, RL w m s v c → RL w m' s' v c)
    (hg : ∀ r ver y, g r ver = some y → ∀ v, RL w m s v (.row r ver) → RL w m' s' v y) (hgm : ∀ r ver y, gm r ver = some y → ∀ v, RL w m s v (.mp r ver) → RL w m' s' v y) (h : RL w m s v c) : RL w m' s' v (c.see g gm) := by
  induction h with
  | val h => exact .val ((h.mono fun b o hb => ⟨hS b o hb, .rfl⟩).see g gm)
  | agg vs cs h h1 hc ih =>
    refine .agg vs _ (by rw [seeL_len]; exact h) h1 fun i v c hv hcc => ?_
    obtain ⟨c', k1, rfl⟩ := seeL_at g gm cs i c hcc
    exact ih i v c' hv k1
  | tuple vs cs h hc ih =>
    refine .tuple vs _ (by rw [seeL_len]; exact h) fun i v c hv hcc => ?_
    obtain ⟨c', k1, rfl⟩ := seeL_at g gm cs i c hcc
    exact ih i v c' hv k1
  | clo f vs cs h hc ih =>
    refine .clo f vs _ (by rw [seeL_len]; exact h) fun i v c hv hcc => ?_
    obtain ⟨c', k1, rfl⟩ := seeL_at g gm cs i c hcc
    exact ih i v c' hv k1
  | row r ver h1 hle h =>
    unfold AV.see
    cases hq : g r ver with
    | none => exact keep (.row r ver h1 hle h)
    | some y => exact hg r ver y hq _ (.row r ver h1 hle h)
  | sub r ver lo h1 hle h => exact keep (.sub r ver lo h1 hle h)
  | loc r ver i off h1 hle h => exact keep (.loc r ver i off h1 hle h)
  | mp r ver h1 hle h =>
    unfold AV.see
    cases hq : gm r ver with
    | none => exact keep (.mp r ver h1 hle h)
    | some y => exact hgm r ver y hq _ (.mp r ver h1 hle h)
end
def Row.see (g gm : Nat → Nat → Option AV) (row : Row) : Row := if row.pure then row else { row with es := row.es.map (·.map (AV.see g gm)) }
section
variable (g gm : Nat → Nat → Option AV) (row : Row)
theorem Row.see_sz : (row.see g gm).sz = row.sz := by unfold Row.see; split <;> rfl
theorem Row.see_e : (row.see g gm).e = row.e := by unfold Row.see; split <;> rfl
theorem Row.see_pure : (row.see g gm).pure = row.pure := by unfold Row.see; split <;> rfl
theorem Row.see_len : (row.see g gm).es.length = row.es.length := by unfold Row.see; split <;> simp
theorem Row.see_at {i j : Nat} {c : AV} (h : cellAt (row.see g gm).es i j = some c) : ∃ c', cellAt row.es i j = some c' ∧ c = (if row.pure then c' else c'.see g gm) := by
  unfold Row.see at h
  split at h
  · rename_i hp
    exact ⟨c, h, by rw [if_pos hp]⟩
  · rename_i hp
    unfold cellAt at h ⊢
    simp only [List.getElem?_map] at h
    cases hi : row.es[i]? with
    | none => rw [hi] at h; cases h
    | some e =>
      rw [hi] at h
      simp only [Option.map_some, Option.bind_some, List.getElem?_map] at h
      cases hj : e[j]? with
      | none => rw [hj] at h; cases h
      | some c' => rw [hj] at h; cases h; exact ⟨c', hj, by rw [if_neg hp]⟩
theorem Row.see_els {n : Nat} (hl : ∀ (i : Nat) (e : List AV), row.es[i]? = some e → e.length = n) (i : Nat) (e : List AV) (h : (row.see g gm).es[i]? = some e) : e.length = n := by
  unfold Row.see at h
  split at h
  · exact hl i e h
  · simp only [List.getElem?_map] at h
    cases hi : row.es[i]? with
    | none => rw [hi] at h; cases h
    | some e' => rw [hi] at h; cases h; simpa using hl i e' hi
end
theorem RowOk.see {base : Nat} {w : World} {m m' : Mem} {s s' : St} {r : Nat} {row : Row} {g gm : Nat → Nat → Option AV} (h : RowOk base w m s r row) (hS : ∀ b o, m.S b o → m'.S b o)
    (hl : ∀ {v : Value} {c : AV}, RL w m s v c → RL w m' s' v (c.see g gm)) (hρ : m'.ρ r = m.ρ r) (he : s'.esc r = s.esc r) (hn : ∀ gb, (m.ρ r).ownBlock = some gb → ∀ o, m'.S gb o → m.S gb o) : RowOk base w m' s' r (row.see g gm) := by
  have hS2 : ∀ b o, m.S b o → m'.S b o ∧ Stay w w b o := fun b o hb => ⟨hS b o hb, .rfl⟩
  rcases h with h | h
  · refine .inl ⟨by rw [Row.see_sz]; exact h.pos, fun i e hh => by rw [Row.see_sz]; exact Row.see_els g gm row h.len i e hh, ?_, ?_, ?_, ?_⟩
    · obtain ⟨xs, h1, h2, h3⟩ := h.own
      refine ⟨xs, by rw [Row.see_e, Row.see_sz, Row.see_len, hρ]; exact h1, h2, fun i j c hc => ?_⟩
      obtain ⟨c', k1, k2⟩ := Row.see_at g gm row hc
      obtain ⟨u, k3, k4⟩ := h3 i j c' k1
      refine ⟨u, by rw [Row.see_sz]; exact k3, ?_⟩
      rw [Row.see_pure]
      subst k2
      cases hp : row.pure with
      | true => rw [hp] at k4; simp only [if_true] at k4 ⊢; exact k4.mono hS2
      | false => rw [hp] at k4; simp only [Bool.false_eq_true, if_false] at k4 ⊢; exact hl k4
    · rw [he, hρ, Row.see_len, Row.see_sz]
      exact fun e gb hgb o ho => hS gb o (h.esc e gb hgb o ho)
    · rw [hρ, Row.see_len, Row.see_sz]
      exact fun gb hgb o ho hh => h.spare gb hgb o ho (hn gb hgb o hh)
    · rw [he, hρ]
      exact fun e gb hgb o hh => h.fresh e gb hgb o (hn gb hgb o hh)
  · obtain ⟨b, ents, clock, e1, e2, e3, e4, e5⟩ := h.own
    refine .inr ⟨by rw [Row.see_sz]; exact h.sz, ⟨b, ents, clock, hρ.trans e1, e2, e3, by rw [Row.see_len]; exact e4, fun i e hi => ?_⟩, fun gb hgb o hh => h.fresh gb (by rw [← hρ]; exact hgb) o (hn gb (by rw [← hρ]; exact hgb) o hh)⟩
    unfold Row.see at hi
    split at hi
    · rename_i hp
      obtain ⟨en, kc, vc, k1, k2, k3, k4⟩ := e5 i e hi
      rw [if_pos hp] at k4
      exact ⟨en, kc, vc, k1, k2, k3.mono hS2, by rw [Row.see_pure, if_pos hp]; exact k4.mono hS2⟩
    · rename_i hp
      simp only [List.getElem?_map] at hi
      cases hi0 : row.es[i]? with
      | none => rw [hi0] at hi; cases hi
      | some e0 =>
        rw [hi0] at hi
        cases hi
        obtain ⟨en, kc, vc, k1, k2, k3, k4⟩ := e5 i e0 hi0
        rw [if_neg hp] at k4
        subst k2
        refine ⟨en, kc.see g gm, vc.see g gm, k1, rfl, (k3.mono hS2).see g gm, ?_⟩
        rw [Row.see_pure, if_neg hp]
        exact hl k4
/-- Other words for rows and maps: fm says which rows are left. -/
theorem Sim.seen {x : Ctx} {s s' : St} {a : Act} {w : World} {m : Mem} {g gm : Nat → Nat → Option AV} (S' : Nat → Nat → Prop) (h : Sim x s a w m) (hS : ∀ b o, m.S b o → S' b o) (hnew : ∀ b o, S' b o → m.S b o ∨ (x.w.heap.size ≤ b ∧ b < w.heap.size))
    (hvs : s'.vs = s.vs) (hf : ∀ t, s'.f t = (s.f t).see g gm) (hrow : ∀ r row', s'.rows r = some row' → ∃ row, s.rows r = some row ∧ row' = row.see g gm ∧ s'.esc r = s.esc r ∧ ∀ gb, (m.ρ r).ownBlock = some gb → ∀ o, S' gb o → m.S gb o)
    (hg : ∀ r ver y, g r ver = some y → ∀ v, RL w m s v (.row r ver) → RL w ⟨S', m.ρ⟩ s' v y) (hgm : ∀ r ver y, gm r ver = some y → ∀ v, RL w m s v (.mp r ver) → RL w ⟨S', m.ρ⟩ s' v y) (hfx : ∀ b, x.fx b → ∀ o, S' b o → m.S b o) : Sim x s' a w ⟨S', m.ρ⟩ := by
  have hk : ∀ r row', s'.rows r = some row' → ∃ row, s.rows r = some row ∧ row.sz = row'.sz ∧ m.ρ r = m.ρ r := fun r row' hr => by
    obtain ⟨row, k1, k2, _⟩ := hrow r row' hr
    exact ⟨row, k1, by rw [k2, Row.see_sz], rfl⟩
  have hl : ∀ {v : Value} {c : AV}, RL w m s v c → RL w ⟨S', m.ρ⟩ s' v (c.see g gm) := fun hh => hh.see (m' := ⟨S', m.ρ⟩) hS (fun hh => hh.mono (fun b o hb => ⟨hS b o hb, .rfl⟩) (fun r => by rw [hvs]; exact Nat.le_refl _) fun r row' _ hr => hk r row' hr) hg hgm
  have hS2 : ∀ b o, m.S b o → S' b o ∧ Stay w w b o := fun b o hb => ⟨hS b o hb, .rfl⟩
  have hv : ∀ r, s.vs r ≤ s'.vs r := fun r => by rw [hvs]; exact Nat.le_refl _
  refine ⟨h.bel, fun b o hh => ?_, fun b o hh => hS b o (h.sup b o hh), fun b o hh => ?_, h.env, h.env0, h.einv, h.dfs, h.siz, fun t => by rw [hf]; exact hl (h.slot t), fun r row' hr => ?_, fun r r' row row' h1 h2 => ?_, h.toS (m' := ⟨S', m.ρ⟩) hS2, h.toV hv, h.toK (m' := ⟨S', m.ρ⟩) hv fun r row' _ hr => hk r row' hr, h.fwle, fun b hf => ⟨(h.fix b hf).1, (h.fix b hf).2.1, fun o hh => (h.fix b hf).2.2 o (hfx b hf o hh)⟩, fun r row' hr => ?_⟩
  · rcases hnew b o hh with k | k
    · exact h.low b o k
    · exact k.2
  · rcases hnew b o hh with k | k
    · exact h.sub b o k
    · exact .inr k.1
  · obtain ⟨row, k1, k2, k3, k4⟩ := hrow r row' hr
    rw [k2]
    exact (h.rows r row k1).see (m' := ⟨S', m.ρ⟩) hS hl rfl k3 k4
  · obtain ⟨q1, e1, _⟩ := hrow r row h1
    obtain ⟨q2, e2, _⟩ := hrow r' row' h2
    exact h.inj r r' q1 q2 e1 e2
  · obtain ⟨row, k1, _⟩ := hrow r row' hr
    exact h.nofx r row k1

/-! Rows that freeze -/
/-- The rows to be seen, each with the words for it. -/
def seeAt : List (Nat × Nat × AV) → Nat → Nat → Option AV
  | [], _, _ => none
  | p :: L, r, ver => if r = p.1 ∧ ver = p.2.1 then some p.2.2 else seeAt L r ver
theorem seeAt_mem {r ver : Nat} {y : AV} : ∀ {L : List (Nat × Nat × AV)}, seeAt L r ver = some y → (r, ver, y) ∈ L
  | [], h => by cases h
  | p :: L, h => by
    unfold seeAt at h
    split at h
    · rename_i e
      cases h
      obtain ⟨e1, e2⟩ := e
      subst e1 e2
      exact List.mem_cons_self ..
    · exact List.mem_cons_of_mem _ (seeAt_mem h)
/-- All of a list are rows that stand so. -/
def SeesOk (s : St) (L : List (Nat × Nat × AV)) : Prop := ∀ p ∈ L, s.vs p.1 = p.2.1 ∧ ∃ row, s.rows p.1 = some row ∧ row.sz ≠ 0 ∧ row.pure = true ∧ p.2.2 = .seq row.sz row.es
def seenSt (s : St) (L : List (Nat × Nat × AV)) : St := ⟨fun t => (s.f t).see (seeAt L) fun _ _ => none, fun r => (s.rows r).map (Row.see (seeAt L) fun _ _ => none), s.vs, fun r => s.esc r || L.any fun p => p.1 == r⟩
theorem Sim.shows {x : Ctx} {a : Act} {w : World} : ∀ (L : List (Nat × Nat × AV)) {s : St} {m : Mem}, Sim x s a w m → SeesOk s L →
    ∃ S', Sim x { s with esc := fun r => s.esc r || L.any fun p => p.1 == r } a w ⟨S', m.ρ⟩ ∧ (∀ b o, m.S b o → S' b o) ∧ ∀ p ∈ L, RV S' w (m.ρ p.1) p.2.2
  | [], s, m, h, _ => ⟨m.S, by simpa using h, fun _ _ h => h, fun p hp => by simp at hp⟩
  | p :: L, s, m, h, hL => by
    obtain ⟨_, row, h1, h2, h3, h4⟩ := hL p (by simp)
    obtain ⟨S1, k1, k2, k3⟩ := h.show p.1 row h1 h2 h3
    have hL' : SeesOk (s.show p.1) L := fun q hq => hL q (List.mem_cons_of_mem _ hq)
    obtain ⟨S2, q1, q2, q3⟩ := Sim.shows L k1 hL'
    refine ⟨S2, ?_, fun b o hb => q2 b o (k2 b o hb), fun q hq => ?_⟩
    · have e : ({ s.show p.1 with esc := fun r => (s.show p.1).esc r || L.any fun p => p.1 == r } : St) = { s with esc := fun r => s.esc r || (p :: L).any fun p => p.1 == r } := by
        simp only [St.show, St.mk.injEq, true_and]
        funext r
        simp only [List.any_cons]
        by_cases e : r = p.1
        · subst e
          simp [upd_same]
        · rw [upd_ne _ _ _ e]
          have : (p.1 == r) = false := by simpa using fun e2 => e e2.symm
          rw [this, Bool.false_or]
      rw [e] at q1
      exact q1
    · rcases List.mem_cons.1 hq with rfl | hq
      · rw [h4]
        exact k3.mono fun b o hb => ⟨q2 b o hb, .rfl⟩
      · exact q3 q hq
theorem Sim.sees {x : Ctx} {s : St} {a : Act} {w : World} {m : Mem} (h : Sim x s a w m) (L : List (Nat × Nat × AV)) (hL : SeesOk s L) : ∃ S', Sim x (seenSt s L) a w ⟨S', m.ρ⟩ := by
  obtain ⟨S', k1, k2, k3⟩ := h.shows L hL
  refine ⟨S', Sim.seen (m := ⟨S', m.ρ⟩) (s' := seenSt s L) (g := seeAt L) (gm := fun _ _ => none) S' k1 (fun _ _ h => h) (fun _ _ h => .inl h) rfl (fun t => rfl) (fun r row' hr => ?_) (fun r ver y hy v hv => ?_) (fun _ _ _ hy => by cases hy) fun _ _ _ h => h⟩
  · simp only [seenSt] at hr
    cases hq : s.rows r with
    | none => rw [hq] at hr; cases hr
    | some row =>
      rw [hq] at hr
      cases hr
      exact ⟨row, by first | exact hq | rfl, rfl, rfl, fun _ _ _ h => h⟩
  · have hm := seeAt_mem hy
    obtain ⟨e1, row, e2, _⟩ := hL _ hm
    have := hv.row_.2 e1 row e2
    rw [this]
    exact .val (k3 _ hm)
theorem awp_sees {P : Program} {env : Env} {nt : Nat} {c : Code} {Q : Exit → St → Prop} {s : St} (L : List (Nat × Nat × AV)) (hL : SeesOk s L) (h : awp P env nt c Q (seenSt s L)) : awp P env nt c Q s := fun ro x hx hn a w m hS => by
  obtain ⟨S', k⟩ := hS.sees L hL
  exact h ro x hx hn a w _ k

/-! Maps that freeze -/
def mapSt (s : St) (r : Nat) (y : AV) : St := ⟨fun t => (s.f t).see (fun _ _ => none) fun r' ver => if r' = r ∧ ver = s.vs r then some y else none, fun k => if k = r then none else (s.rows k).map (Row.see (fun _ _ => none) fun r' ver => if r' = r ∧ ver = s.vs r then some y else none), s.vs, s.esc⟩
theorem Sim.mapSee {x : Ctx} {s : St} {a : Act} {w : World} {m : Mem} (h : Sim x s a w m) (r : Nat) (row : Row) (hr : s.rows r = some row) (hsz : row.sz = 0) (hb : row.es.all (·.all AV.bare) = true) : ∃ S', Sim x (mapSt s r (.fmap row.es)) a w ⟨S', m.ρ⟩ := by
  have k := (h.rows r row hr).map hsz
  obtain ⟨gb, ents, clock, e1, e2, e3, e4, e5⟩ := k.own
  have hown : (m.ρ r).ownBlock = some gb := by rw [e1]; rfl
  have hgl : gb < w.heap.size := (Array.getElem?_eq_some_iff.1 e3).1
  obtain ⟨S', hS'⟩ : ∃ S' : Nat → Nat → Prop, S' = fun b o => m.S b o ∨ (b = gb ∧ o = 0) := ⟨_, rfl⟩
  have hsup : ∀ b o, m.S b o → S' b o := fun b o hh => by rw [hS']; exact .inl hh
  have hsup2 : ∀ b o, m.S b o → S' b o ∧ Stay w w b o := fun b o hh => ⟨hsup b o hh, .rfl⟩
  have hbare : ∀ (i : Nat) (e : List AV) (c : AV), row.es[i]? = some e → c ∈ e → c.bare = true := fun i e c hi hc => (List.all_eq_true.1 ((List.all_eq_true.1 hb) e (List.mem_of_getElem? hi))) c hc
  have hv : RV S' w (.map (some gb)) (.fmap row.es) := by
    refine .fmap gb ents clock row.es (by rw [hS']; exact .inr ⟨rfl, rfl⟩) e3 e4.1 (fun i e hi => ?_) (fun i en c hen hc => ?_) fun i en c hen hc => ?_
    · obtain ⟨en, kc, vc, _, k2, _⟩ := e5 i e hi
      rw [k2]; rfl
    · unfold cellAt at hc
      cases hi : row.es[i]? with
      | none => rw [hi] at hc; cases hc
      | some e =>
        rw [hi] at hc
        obtain ⟨en', kc, vc, k1, k2, k3, _⟩ := e5 i e hi
        rw [k1] at hen
        cases hen
        subst k2
        cases hc
        exact k3.mono hsup2
    · unfold cellAt at hc
      cases hi : row.es[i]? with
      | none => rw [hi] at hc; cases hc
      | some e =>
        rw [hi] at hc
        obtain ⟨en', kc, vc, k1, k2, _, k4⟩ := e5 i e hi
        rw [k1] at hen
        cases hen
        subst k2
        cases hc
        split at k4
        · exact k4.mono hsup2
        · exact (k4.bare (hbare i _ _ hi (by simp))).mono hsup2
  refine ⟨S', Sim.seen (g := fun _ _ => none) (gm := fun r' ver => if r' = r ∧ ver = s.vs r then some (.fmap row.es) else none) S' h hsup (fun b o hh => ?_) rfl (fun t => rfl) (fun q row' hq => ?_) (fun _ _ _ hy => by cases hy) (fun q ver y hy v hvv => ?_) fun b hf o hh => ?_⟩
  · rw [hS'] at hh
    rcases hh with hh | ⟨rfl, _⟩
    · exact .inl hh
    · exact .inr ⟨e2, hgl⟩
  · simp only [mapSt] at hq
    split at hq
    · cases hq
    · rename_i hne
      cases hq0 : s.rows q with
      | none => rw [hq0] at hq; cases hq
      | some row0 =>
        rw [hq0] at hq
        cases hq
        refine ⟨row0, by first | exact hq0 | rfl, rfl, rfl, fun gq hgq o hh => ?_⟩
        rw [hS'] at hh
        rcases hh with hh | ⟨rfl, _⟩
        · exact hh
        · exact absurd hown (h.inj q r row0 row hq0 hr hne gq hgq)
  · split at hy
    · rename_i e
      cases hy
      obtain ⟨ea, eb⟩ := e
      subst ea eb
      obtain ⟨g', hg', hv'⟩ := hvv.mp_.2 rfl row hr
      rw [hown] at hg'
      cases hg'
      rw [hv']
      exact .val hv
    · cases hy
  · rw [hS'] at hh
    rcases hh with hh | ⟨rfl, _⟩
    · exact hh
    · exact absurd hf (h.nofx r row hr b hown)
theorem awp_mapSee {P : Program} {env : Env} {nt : Nat} {c : Code} {Q : Exit → St → Prop} {s : St} (r : Nat) (row : Row) (hr : s.rows r = some row) (hsz : row.sz = 0) (hb : row.es.all (·.all AV.bare) = true) (h : awp P env nt c Q (mapSt s r (.fmap row.es))) : awp P env nt c Q s := fun ro x hx hn a w m hS => by
  obtain ⟨S', k⟩ := hS.mapSee r row hr hsz hb
  exact h ro x hx hn a w _ k

/-! A row by another name, wherever it is named -/
def renAt (r ver r2 ver2 : Nat) (q v : Nat) : Option AV := if q = r ∧ v = ver then some (.row r2 ver2) else none
def renSt (s : St) (r r2 : Nat) (row : Row) : St := ⟨fun t => (s.f t).see (renAt r (s.vs r) r2 (s.vs r2 + 1)) fun _ _ => none, fun k => if k = r2 then some row else if k = r then none else (s.rows k).map (Row.see (renAt r (s.vs r) r2 (s.vs r2 + 1)) fun _ _ => none), upd s.vs r2 (s.vs r2 + 1), upd s.esc r2 (s.esc r)⟩
theorem Sim.ren {x : Ctx} {s : St} {a : Act} {w : World} {m : Mem} (h : Sim x s a w m) (r r2 : Nat) (row : Row) (hne : r2 ≠ r) (hr : s.rows r = some row) (hr2 : s.rows r2 = none) (hrz : row.sz ≠ 0) (hp : row.pure = true) : Sim x (renSt s r r2 row) a w ⟨m.S, upd m.ρ r2 (m.ρ r)⟩ := by
  have hv : ∀ k, s.vs k ≤ (renSt s r r2 row).vs k := fun k => by
    simp only [renSt, upd]
    split
    · rename_i e; rw [e]; omega
    · exact Nat.le_refl _
  have hrow : ∀ k row', (renSt s r r2 row).rows k = some row' → (k = r2 ∧ row' = row) ∨ (k ≠ r2 ∧ k ≠ r ∧ ∃ row0, s.rows k = some row0 ∧ row' = row0.see (renAt r (s.vs r) r2 (s.vs r2 + 1)) fun _ _ => none) := fun k row' hk => by
    simp only [renSt] at hk
    split at hk
    · rename_i e; cases hk; exact .inl ⟨e, rfl⟩
    · rename_i e
      split at hk
      · cases hk
      · rename_i e2
        cases hq : s.rows k with
        | none => rw [hq] at hk; cases hk
        | some row0 => rw [hq] at hk; cases hk; exact .inr ⟨e, e2, row0, by first | exact hq | rfl, rfl⟩
  have hk : ∀ k row', (renSt s r r2 row).vs k = s.vs k → (renSt s r r2 row).rows k = some row' → ∃ row0, s.rows k = some row0 ∧ row0.sz = row'.sz ∧ upd m.ρ r2 (m.ρ r) k = m.ρ k := fun k row' e hh => by
    rcases hrow k row' hh with ⟨rfl, rfl⟩ | ⟨e1, e2, row0, h1, rfl⟩
    · simp only [renSt, upd_same] at e; omega
    · exact ⟨row0, h1, by rw [Row.see_sz], upd_ne _ _ _ e1⟩
  have hS2 : ∀ b o, m.S b o → m.S b o ∧ Stay w w b o := fun b o hb => ⟨hb, .rfl⟩
  have k := (h.rows r row hr).cells hrz
  have h1c : (m.ρ r).oneCell' = true := by
    obtain ⟨xs, k1, _⟩ := k.own
    rcases k1.2 with ⟨e, _⟩ | ⟨g, cap, cur, e, _⟩ <;> rw [e] <;> rfl
  have hl : ∀ {v : Value} {c : AV}, RL w m s v c → RL w ⟨m.S, upd m.ρ r2 (m.ρ r)⟩ (renSt s r r2 row) v (c.see (renAt r (s.vs r) r2 (s.vs r2 + 1)) fun _ _ => none) := fun hh => RL.see (m := m) (m' := ⟨m.S, upd m.ρ r2 (m.ρ r)⟩) (s := s) (fun _ _ h => h) (fun hh => RL.mono (m := m) (m' := ⟨m.S, upd m.ρ r2 (m.ρ r)⟩) hh hS2 hv hk) (fun q ver y hy v hvv => by
    unfold renAt at hy
    split at hy
    · rename_i e
      cases hy
      obtain ⟨ea, eb⟩ := e
      subst ea eb
      have := hvv.row_.2 rfl row hr
      subst this
      exact .row r2 _ h1c (by simp [renSt, upd_same]) fun _ row' _ => by simp [upd_same]
    · cases hy) (fun _ _ _ hy => by cases hy) hh
  refine ⟨h.bel, h.low, h.sup, h.sub, h.env, h.env0, h.einv, h.dfs, h.siz, fun t => hl (h.slot t), fun q row' hq => ?_, fun q q' row1 row2 h1 h2 hqq g hg => ?_, h.toS (m' := ⟨m.S, upd m.ρ r2 (m.ρ r)⟩) hS2, h.toV hv, h.toK (m' := ⟨m.S, upd m.ρ r2 (m.ρ r)⟩) hv hk, h.fwle, h.fix, fun q row' hq g hg => ?_⟩
  · rcases hrow q row' hq with ⟨rfl, rfl⟩ | ⟨e1, e2, row0, h1, rfl⟩
    · have := k.ren (r' := q) (m' := ⟨m.S, upd m.ρ q (m.ρ r)⟩) (s' := renSt s r q row') (g := fun _ _ => none) rfl (fun _ _ _ _ hh => by cases hh) (by simp [upd_same]) (by simp [renSt, upd_same])
      have e : row'.ren (fun _ _ => none) = row' := by unfold Row.ren; rw [if_pos hp]
      rw [e] at this
      exact .inl this
    · exact (h.rows q row0 h1).see (m' := ⟨m.S, upd m.ρ r2 (m.ρ r)⟩) (fun _ _ h => h) hl (upd_ne _ _ _ e1) (by simp only [renSt, upd_ne _ _ _ e1]) fun _ _ _ h => h
  · simp only at hg ⊢
    rcases hrow q row1 h1 with ⟨rfl, rfl⟩ | ⟨e1, e2, row0, h3, rfl⟩
    · rw [upd_same] at hg
      rcases hrow q' row2 h2 with ⟨e, _⟩ | ⟨e1, e2, row0, h3, _⟩
      · exact absurd e.symm hqq
      · rw [upd_ne _ _ _ e1]
        exact h.inj r q' row1 row0 hr h3 (Ne.symm e2) g hg
    · rw [upd_ne _ _ _ e1] at hg
      rcases hrow q' row2 h2 with ⟨rfl, rfl⟩ | ⟨e3, e4, row3, h5, _⟩
      · rw [upd_same]
        exact h.inj q r row0 row2 h3 hr e2 g hg
      · rw [upd_ne _ _ _ e3]
        exact h.inj q q' row0 row3 h3 h5 hqq g hg
  · simp only at hg
    rcases hrow q row' hq with ⟨rfl, rfl⟩ | ⟨e1, e2, row0, h3, _⟩
    · rw [upd_same] at hg
      exact h.nofx r row' hr g hg
    · rw [upd_ne _ _ _ e1] at hg
      exact h.nofx q row0 h3 g hg
theorem awp_ren {P : Program} {env : Env} {nt : Nat} {c : Code} {Q : Exit → St → Prop} {s : St} (r r2 : Nat) (row : Row) (hne : r2 ≠ r) (hr : s.rows r = some row) (hr2 : s.rows r2 = none) (hrz : row.sz ≠ 0) (hp : row.pure = true) (h : awp P env nt c Q (renSt s r r2 row)) : awp P env nt c Q s := fun ro x hx hn a w _ hS =>
  h ro x hx hn a w _ (hS.ren r r2 row hne hr hr2 hrz hp)
end Go.Proofs.YtaonccobohiiiaaDoor
