/- Rows of the call's own that a walk puts aside: their values are written down, their blocks stay. No program is named here. -/
import Derived.Test.YtaonccobohiiiaaDoorVT
namespace Go.Proofs.YtaonccobohiiiaaDoor
open Go.RowKit

/-- A row put aside. -/
structure Side where
  v : Value
  e : TypeId
  sz : Nat
  es : List (List AV)
structure SideOk (base : Nat) (w : World) (S : Nat → Nat → Prop) (p : Side) : Prop where
  pos : 0 < p.sz
  len : ∀ (i : Nat) (e : List AV), p.es[i]? = some e → e.length = p.sz
  own : ∃ xs, w.ownsRow base p.e p.sz p.v p.es.length xs ∧ (∀ u ∈ xs, u.oneCell' = true) ∧ ∀ (i j : Nat) (c : AV), cellAt p.es i j = some c → ∃ u, xs[i * p.sz + j]? = some u ∧ RV S w u c
  fresh : ∀ g, p.v.ownBlock = some g → ∀ o, ¬ S g o
theorem SideOk.mono {base : Nat} {w w' : World} {S S' : Nat → Nat → Prop} {p : Side} (h : SideOk base w S p) (hb : ∀ g, p.v.ownBlock = some g → w'.heap[g]? = w.heap[g]? ∧ ∀ o, S' g o → S g o) (hS : ∀ b o, S b o → S' b o ∧ Stay w w' b o) : SideOk base w' S' p := by
  refine ⟨h.pos, h.len, ?_, fun g hg o hh => h.fresh g hg o ((hb g hg).2 o hh)⟩
  obtain ⟨xs, h1, h2, h3⟩ := h.own
  refine ⟨xs, ⟨h1.1, ?_⟩, h2, fun i j c hc => ?_⟩
  · rcases h1.2 with h | ⟨g, cap, cur, e1, e2, e3, e4⟩
    · exact .inl h
    · exact .inr ⟨g, cap, cur, e1, e2, ((hb g (by rw [e1]; rfl)).1).trans e3, e4⟩
  · obtain ⟨u, k1, k2⟩ := h3 i j c hc
    exact ⟨u, k1, k2.mono hS⟩
/-- What lies aside, as a walk was last taken up. -/
def Aside (x : Ctx) (L : List Side) : Prop := ∀ p ∈ L, SideOk x.w.heap.size x.fw x.fm.S p ∧ ∀ g, p.v.ownBlock = some g → x.fx g
theorem Aside.now {x : Ctx} {L : List Side} {s : St} {a : Act} {w : World} {m : Mem} (h : Aside x L) (hS : Sim x s a w m) : ∀ p ∈ L, SideOk x.w.heap.size w m.S p := fun p hp =>
  (h p hp).1.mono (fun g hg => (hS.fix g ((h p hp).2 g hg)).2) hS.evS
/-- Two contexts of one call. -/
structure Kin (x x' : Ctx) : Prop where
  w : x'.w = x.w
  S : x'.S = x.S
  env : x'.env = x.env
  nt : x'.nt = x.nt
  df : x'.df = x.df
theorem Kin.refl (x : Ctx) : Kin x x := ⟨rfl, rfl, rfl, rfl, rfl⟩
theorem Kin.trans {x y z : Ctx} (h : Kin x y) (k : Kin y z) : Kin x z := ⟨k.w.trans h.w, k.S.trans h.S, k.env.trans h.env, k.nt.trans h.nt, k.df.trans h.df⟩

def litAt (r ver : Nat) (V : Value) (q v : Nat) : Option AV := if q = r ∧ v = ver then some (.lit V) else none
def stowSt (s : St) (r : Nat) (V : Value) : St := ⟨fun t => (s.f t).see (litAt r (s.vs r) V) fun _ _ => none, fun k => if k = r then none else (s.rows k).map (Row.see (litAt r (s.vs r) V) fun _ _ => none), s.vs, s.esc⟩
theorem Sim.stow {x : Ctx} {s : St} {a : Act} {w : World} {m : Mem} (h : Sim x s a w m) (r : Nat) (row : Row) (hr : s.rows r = some row) :
    Sim { x with fw := w, fm := m, e := stowSt s r (m.ρ r), fx := fun b => x.fx b ∨ (m.ρ r).ownBlock = some b } (stowSt s r (m.ρ r)) a w m := by
  have hrow : ∀ k row', (stowSt s r (m.ρ r)).rows k = some row' → k ≠ r ∧ ∃ row0, s.rows k = some row0 ∧ row' = row0.see (litAt r (s.vs r) (m.ρ r)) fun _ _ => none := fun k row' hk => by
    simp only [stowSt] at hk
    split at hk
    · cases hk
    · rename_i e
      cases hq : s.rows k with
      | none => rw [hq] at hk; cases hk
      | some row0 => rw [hq] at hk; cases hk; exact ⟨e, row0, by first | exact hq | rfl, rfl⟩
  have hS2 : ∀ b o, m.S b o → m.S b o ∧ Stay w w b o := fun b o hb => ⟨hb, .rfl⟩
  have hl : ∀ {v : Value} {c : AV}, RL w m s v c → RL w m (stowSt s r (m.ρ r)) v (c.see (litAt r (s.vs r) (m.ρ r)) fun _ _ => none) := fun hh => RL.see (m := m) (m' := m) (s := s) (fun _ _ h => h)
    (fun hh => RL.mono (m := m) (m' := m) (s := s) hh hS2 (fun _ => Nat.le_refl _) fun k row' _ hk => by
      obtain ⟨_, row0, k1, rfl⟩ := hrow k row' hk
      exact ⟨row0, k1, by rw [Row.see_sz], rfl⟩) (fun q ver y hy v hvv => by
      unfold litAt at hy
      split at hy
      · rename_i e
        cases hy
        obtain ⟨rfl, rfl⟩ := e
        rw [hvv.row_.2 rfl row hr]
        exact .val (.lit _)
      · cases hy) (fun _ _ _ hy => by cases hy) hh
  have hbk : ∀ b, (m.ρ r).ownBlock = some b → b < w.heap.size := fun b hb => ((h.rows r row hr).blk hb).2
  refine ⟨h.bel, h.low, h.sup, h.sub, h.env, h.env0, h.einv, h.dfs, h.siz, fun t => hl (h.slot t), fun k row' hk => ?_, fun k k' row1 row2 h1 h2 hne g hg => ?_, hS2, fun _ => Nat.le_refl _, fun k row' _ hk => ⟨row', hk, rfl, rfl⟩, Nat.le_refl _, fun b hb => ⟨?_, rfl, fun _ hh => hh⟩, fun k row' hk g hg hf => ?_⟩
  · obtain ⟨_, row0, k1, rfl⟩ := hrow k row' hk
    exact (h.rows k row0 k1).see (fun _ _ h => h) hl rfl rfl fun _ _ _ h => h
  · obtain ⟨_, row0, k1, _⟩ := hrow k row1 h1
    obtain ⟨_, row3, k2, _⟩ := hrow k' row2 h2
    exact h.inj k k' row0 row3 k1 k2 hne g hg
  · rcases hb with hb | hb
    · exact h.fxlt hb
    · exact hbk b hb
  · obtain ⟨hne, row0, k1, _⟩ := hrow k row' hk
    rcases hf with hf | hf
    · exact h.nofx k row0 k1 g hg hf
    · exact h.inj k r row0 row k1 hr hne g hg hf
theorem Aside.stow {x : Ctx} {L : List Side} {s : St} {a : Act} {w : World} {m : Mem} (hL : Aside x L) (h : Sim x s a w m) (r : Nat) (row : Row) (hr : s.rows r = some row) (hrz : row.sz ≠ 0) (hp : row.pure = true) (he : s.esc r = false) :
    Aside { x with fw := w, fm := m, e := stowSt s r (m.ρ r), fx := fun b => x.fx b ∨ (m.ρ r).ownBlock = some b } (L ++ [⟨m.ρ r, row.e, row.sz, row.es⟩]) := fun p hp' => by
  rcases List.mem_append.1 hp' with hm | hm
  · exact ⟨hL.now h p hm, fun g hg => .inl ((hL p hm).2 g hg)⟩
  · obtain rfl := List.mem_singleton.1 hm
    have k := (h.rows r row hr).cells hrz
    obtain ⟨xs, k1, k2, k3⟩ := k.own
    refine ⟨⟨k.pos, k.len, ⟨xs, k1, k2, fun i j c hc => ?_⟩, fun g hg o => k.fresh he g hg o⟩, fun g hg => .inr hg⟩
    obtain ⟨u, q1, q2⟩ := k3 i j c hc
    rw [hp] at q2
    exact ⟨u, q1, q2⟩

/-- Where code leads that puts rows aside. -/
def awpP (P : Program) (env : Env) (nt : Nat) (c : Code) (Q : Exit → St → List Side → Prop) (s : St) (L : List Side) : Prop :=
  ∀ (ro : Option Nat) (x : Ctx), x.env = env → x.nt = nt → Aside x L → ∀ a w m, Sim x s a w m → c.wpIn (fen ro) 3 P (fun e a' w' => ∃ s' m' x' L', Q e s' L' ∧ Kin x x' ∧ Aside x' L' ∧ Sim x' s' a' w' m') a w
def thenP (K : St → List Side → Prop) (Q : Exit → St → List Side → Prop) : Exit → St → List Side → Prop
  | .normal, s, L => K s L
  | e, s, L => Q e s L
def blockP (id : Nat) (Q : Exit → St → List Side → Prop) : Exit → St → List Side → Prop
  | .exit id', s, L => if id' = id then Q .normal s L else Q (.exit id') s L
  | e, s, L => Q e s L
section
variable {P : Program} {env : Env} {nt : Nat} {Q : Exit → St → List Side → Prop} {s : St} {L : List Side}
theorem awpP_of {c : Code} (h : awp P env nt c (fun e s1 => Q e s1 L) s) : awpP P env nt c Q s L := fun ro x he hn hL a w m hS => wpIn_mono (h ro x he hn a w m hS) fun _ _ _ ⟨s', m', h1, h2⟩ => ⟨s', m', x, L, h1, .refl x, hL, h2⟩
theorem awpP_seq {c d : Code} (h : awpP P env nt c (thenP (awpP P env nt d Q) Q) s L) : awpP P env nt (.seq c d) Q s L := fun ro x he hn hL a w m hS => by
  refine wpIn_seq (wpIn_mono (h ro x he hn hL a w m hS) ?_)
  rintro e a' w' ⟨s', m', x', L', h1, hK, hA, h2⟩
  cases e with
  | normal => exact wpIn_mono (h1 ro x' (hK.env.trans he) (hK.nt.trans hn) hA a' w' m' h2) fun _ _ _ ⟨s'', m'', x'', L'', k1, k2, k3⟩ => ⟨s'', m'', x'', L'', k1, hK.trans k2, k3⟩
  | _ => exact ⟨s', m', x', L', h1, hK, hA, h2⟩
theorem awpP_seqA {c d : Code} (h : awp P env nt c (thenA (fun s1 => awpP P env nt d Q s1 L) fun e s1 => Q e s1 L) s) : awpP P env nt (.seq c d) Q s L :=
  awpP_seq (awpP_of (fun ro x he hn a w m hS => wpIn_mono (h ro x he hn a w m hS) fun e _ _ ⟨s', m', h1, h2⟩ => ⟨s', m', by cases e <;> exact h1, h2⟩))
theorem awpP_cond {y : Operand} {c d : Code} {b : Bool} (hy : gt env s.f y = .lit (.bool b)) (h1 : b = true → awpP P env nt c Q s L) (h2 : b = false → awpP P env nt d Q s L) : awpP P env nt (.cond y c d) Q s L := fun ro x he hn hL a w m hS => by
  have hv := gt_ok hS y
  rw [he, hy] at hv
  exact wpIn_cond_split hv.lit_ (fun hb => h1 hb ro x he hn hL a w m hS) (fun hb => h2 hb ro x he hn hL a w m hS)
theorem awpP_yes {y : Operand} {c d : Code} (hy : Is (gt env s.f y) (.lit (.bool true))) (h : awpP P env nt c Q s L) : awpP P env nt (.cond y c d) Q s L := awpP_cond hy (fun _ => h) (fun h' => by cases h')
theorem awpP_no {y : Operand} {c d : Code} (hy : Is (gt env s.f y) (.lit (.bool false))) (h : awpP P env nt d Q s L) : awpP P env nt (.cond y c d) Q s L := awpP_cond hy (fun h' => by cases h') (fun _ => h)
theorem awpP_block {id : Nat} {c : Code} (h : awpP P env nt c (blockP id Q) s L) : awpP P env nt (.block id c) Q s L := fun ro x he hn hL a w m hS => by
  refine wpIn_block (wpIn_mono (h ro x he hn hL a w m hS) ?_)
  rintro e a' w' ⟨s', m', x', L', h1, h2⟩
  cases e with
  | exit id' =>
    show if id' = id then _ else _
    have h1 : if id' = id then Q .normal s' L' else Q (.exit id') s' L' := h1
    split
    · rename_i hid; rw [if_pos hid] at h1; exact ⟨s', m', x', L', h1, h2⟩
    · rename_i hid; rw [if_neg hid] at h1; exact ⟨s', m', x', L', h1, h2⟩
  | _ => exact ⟨s', m', x', L', h1, h2⟩
theorem awpP_less {c : Code} {s' : St} (hl : Less s s') (h : awpP P env nt c Q s' L) : awpP P env nt c Q s L := fun ro x he hn hL a w m hS => h ro x he hn hL a w m (hS.less hl)
theorem awpP_head {c : Code} (F : List (Nat × AV)) (R : List (Nat × Row)) (hF : HoldF s F) (hR : HoldR s R) (h : awpP P env nt c Q (head F R s.vs s.esc) L) : awpP P env nt c Q s L := awpP_less (less_headS hF hR) h
theorem awpP_loop {D : Type} {c : Code} (F : D → (Nat → Nat) → List (Nat × AV)) (R : D → (Nat → Nat) → List (Nat × Row)) (inv : D → (Nat → Nat) → (Nat → Bool) → List Side → Prop) (μ : D → Nat) (d0 : D) (h0 : inv d0 s.vs s.esc L)
    (hF : HoldF s (F d0 s.vs)) (hR : HoldR s (R d0 s.vs))
    (round : ∀ d vs esc L, inv d vs esc L → awpP P env nt c (thenP (fun s1 L1 => ∃ d', inv d' s1.vs s1.esc L1 ∧ HoldF s1 (F d' s1.vs) ∧ HoldR s1 (R d' s1.vs) ∧ μ d' < μ d) Q) (head (F d vs) (R d vs) vs esc) L) : awpP P env nt (.loop c) Q s L := fun ro x he hn hL a w m hS => by
  refine wpIn_loop_ghost (fun n a w => ∃ d vs esc m x' L', inv d vs esc L' ∧ μ d = n ∧ Kin x x' ∧ Aside x' L' ∧ Sim x' (head (F d vs) (R d vs) vs esc) a w m) (μ d0) ⟨d0, s.vs, s.esc, m, x, L, h0, rfl, .refl x, hL, hS.less (less_headS hF hR)⟩ ?_
  rintro n a w ⟨d, vs, esc, m, x', L', hi, rfl, hK, hA, hS⟩
  refine wpIn_mono (round d vs esc L' hi ro x' (hK.env.trans he) (hK.nt.trans hn) hA a w m hS) ?_
  rintro e a' w' ⟨s', m', x'', L'', h1, hK', hA', h2⟩
  cases e with
  | normal =>
    obtain ⟨d', q1, q2, q3, q4⟩ := h1
    exact ⟨μ d', q4, d', s'.vs, s'.esc, m', x'', L'', q1, rfl, hK.trans hK', hA', h2.less (less_headS q2 q3)⟩
  | _ => exact ⟨s', m', x'', L'', h1, hK.trans hK', hA', h2⟩
/-- A row is put aside: its value takes its name's place. -/
theorem awpP_stow {c : Code} (r : Nat) (row : Row) (hr : s.rows r = some row) (hrz : row.sz ≠ 0) (hp : row.pure = true) (he : s.esc r = false) (h : ∀ V, V.oneCell' = true → awpP P env nt c Q (stowSt s r V) (L ++ [⟨V, row.e, row.sz, row.es⟩])) : awpP P env nt c Q s L := fun ro x hx hn hL a w m hS => by
  have h1c : (m.ρ r).oneCell' = true := by
    obtain ⟨xs, k1, _⟩ := ((hS.rows r row hr).cells hrz).own
    rcases k1.2 with ⟨e, _⟩ | ⟨g, cap, cur, e, _⟩ <;> rw [e] <;> rfl
  refine wpIn_mono (h (m.ρ r) h1c ro _ ?_ ?_ (hL.stow hS r row hr hrz hp he) a w m (hS.stow r row hr)) ?_
  · exact hx
  · exact hn
  · rintro e a' w' ⟨s', m', x', L', h1, h2, h3⟩
    exact ⟨s', m', x', L', h1, ⟨h2.w, h2.S, h2.env, h2.nt, h2.df⟩, h3⟩
/-- The same, the state told anew. -/
theorem awpP_stowH {c : Code} (F : Value → (Nat → Nat) → List (Nat × AV)) (R : Value → (Nat → Nat) → List (Nat × Row)) (inv : (Nat → Bool) → Prop) (r : Nat) (row : Row) (hr : Is (s.rows r) (some row)) (hrz : row.sz ≠ 0) (hp : row.pure = true) (he : s.esc r = false)
    (hF : ∀ V, HoldF (stowSt s r V) (F V s.vs)) (hR : ∀ V, HoldR (stowSt s r V) (R V s.vs)) (hi : inv s.esc) (h : ∀ V vs esc, V.oneCell' = true → inv esc → awpP P env nt c Q (head (F V vs) (R V vs) vs esc) (L ++ [⟨V, row.e, row.sz, row.es⟩])) : awpP P env nt c Q s L :=
  awpP_stow r row hr hrz hp he fun V hV => awpP_head (F V s.vs) (R V s.vs) (hF V) (hR V) (h V s.vs s.esc hV hi)
end
end Go.Proofs.YtaonccobohiiiaaDoor
