/- A range over a function: its rounds are walked without memory, as any code; the marks that it leaves are taken at the function's end. No program is named here. -/
import Derived.Test.YtaonccobohiiiaaDoorVF
import Derived.RangeFuncLeaves
import Derived.RangeFuncRecord
namespace Go.Proofs.YtaonccobohiiiaaDoor
open Go.RowKit

section
variable {P : Program} {ro : Option Nat} {a : Act} {w : World} {Q : Exit → Act → World → Prop}
theorem fen_room {k : Nat} : (fen ro).room k := by cases ro <;> exact room_wide _
theorem fen_any {n n' : Nat} {c : Code} (h : c.wpIn (fen ro) n P Q a w) : c.wpIn (fen ro) n' P Q a w := fun b k cs h1 h2 _ => h b k cs h1 h2 fen_room
end

/-! A walk taken up anew -/
def Ctx.again (x : Ctx) (s : St) (w : World) (m : Mem) (fx : Nat → Prop) (df : List Deferred) : Ctx := { x with fw := w, fm := m, e := s, fx := fx, df := df }
section
variable {x : Ctx} {s s1 : St} {a a' a1 : Act} {w w' w1 : World} {m m1 : Mem} {fx : Nat → Prop} {df : List Deferred}
theorem Sim.take (h : Sim x s a w m) (hfx : ∀ b, fx b → b < w.heap.size ∧ ∀ r row, s.rows r = some row → (m.ρ r).ownBlock ≠ some b) (ht : a'.tmps = a.tmps) (hd : a'.defers = df) : Sim (x.again s w m fx df) s a' w m :=
  ⟨h.bel, h.low, h.sup, h.sub, h.env, h.env0, h.einv, hd, by rw [ht]; exact h.siz, by rw [ht]; exact h.slot, h.rows, h.inj, fun _ _ hh => ⟨hh, .rfl⟩, fun _ => Nat.le_refl _, fun r row' _ hr => ⟨row', hr, rfl, rfl⟩, Nat.le_refl _,
    fun b hb => ⟨(hfx b hb).1, rfl, fun _ hh => hh⟩, fun r row hr g hg hf => (hfx g hf).2 r row hr hg⟩
theorem Sim.untake {e : St} (h : Sim x s a w m) (h2 : Sim (x.again e w m fx df) s1 a1 w1 m1) (hfx : ∀ b, x.fx b → fx b) (h1 : e.vs = s.vs) (h1' : e.rows = s.rows) : Sim x ⟨s.f, s1.rows, s1.vs, s1.esc⟩ a w1 m1 := by
  have hv : ∀ r, s.vs r ≤ s1.vs r := h1 ▸ h2.evV
  have hS : ∀ b o, m.S b o → m1.S b o ∧ Stay w w1 b o := h2.evS
  have hk : ∀ r row', s1.vs r = s.vs r → s1.rows r = some row' → ∃ row, s.rows r = some row ∧ row.sz = row'.sz ∧ m1.ρ r = m.ρ r := h1 ▸ h1' ▸ h2.evK
  exact ⟨h2.bel, h2.low, h2.sup, h2.sub, h2.env, h2.env0, h2.einv, h.dfs, h.siz, fun t => (h.slot t).mono hS hv hk,
    fun r row hr => (h2.rows r row hr).mono (fun b o hb => ⟨hb, .rfl⟩) (fun _ => Nat.le_refl _) (fun r row' _ hr => ⟨row', hr, rfl, rfl⟩) rfl (fun _ _ => rfl) rfl (fun _ _ _ hh => hh), h2.inj, h.toS hS, h.toV (s' := ⟨s.f, s1.rows, s1.vs, s1.esc⟩) hv, h.toK (s' := ⟨s.f, s1.rows, s1.vs, s1.esc⟩) hv hk, Nat.le_trans h.fwle h2.fwle,
    fun b hb => ⟨(h.fix b hb).1, ((h2.fix b (hfx b hb)).2.1).trans (h.fix b hb).2.1, fun o hh => (h.fix b hb).2.2 o ((h2.fix b (hfx b hb)).2.2 o hh)⟩, fun r row hr g hg hf => h2.nofx r row hr g hg (hfx g hf)⟩
theorem Sim.fewer (h : Sim x s a w m) (fx' : Nat → Prop) (hfx : ∀ b, fx' b → x.fx b) : Sim { x with fx := fx' } s a w m :=
  ⟨h.bel, h.low, h.sup, h.sub, h.env, h.env0, h.einv, h.dfs, h.siz, h.slot, h.rows, h.inj, h.evS, h.evV, h.evK, h.fwle, fun b hb => h.fix b (hfx b hb), fun r row hr g hg hf => h.nofx r row hr g hg (hfx g hf)⟩
/-- A block that nobody names has turned. -/
theorem Sim.turned (h : Sim x s a w m) {b : Nat} (o : Obj) (hb : x.w.heap.size ≤ b) (hS : ∀ o, ¬ m.S b o) (hfx : ¬ x.fx b) (hr : ∀ r row, s.rows r = some row → (m.ρ r).ownBlock ≠ some b) : Sim x s a (w.putObj b o) m := by
  have hne : ∀ k, k ≠ b → (w.putObj b o).heap[k]? = w.heap[k]? := fun k hk => World.putObj_heap_other hk
  refine h.move rfl ⟨rfl, rfl, rfl, by rw [World.putObj_size]; exact Nat.le_refl _, fun k hk => hne k (by omega)⟩ (fun k o hh => ⟨hh, .block (hne k fun e => hS o (e ▸ hh))⟩) (fun _ _ hh => .inl hh) (fun r row hrow g hg => hne g fun e => hr r row hrow (e ▸ hg)) fun k hk => hne k fun e => hfx (e ▸ hk)
end

/-! The marks -/
def markOf (D : Nat) : Deferred := { target := .collected D, args := #[] }
structure Marks (x x' : Ctx) : Prop where
  w : x'.w = x.w
  S : x'.S = x.S
  env : x'.env = x.env
  nt : x'.nt = x.nt
  le : x.fw.heap.size ≤ x'.fw.heap.size
  keep : ∀ b, x.fx b → x'.fx b ∧ (b < x.fw.heap.size → x'.fw.heap[b]? = x.fw.heap[b]? ∧ ∀ o, x'.fm.S b o → x.fm.S b o)
  df : ∃ Ds : List Nat, x'.df = Ds.map markOf ++ x.df ∧ Ds.Nodup ∧ ∀ D ∈ Ds, x'.fx D ∧ x'.fw.heap[D]? = some (.deferred (some [])) ∧ x.w.heap.size ≤ D ∧ x.fw.heap.size ≤ D ∧ ∀ o, ¬ x'.fm.S D o
theorem Marks.refl (x : Ctx) : Marks x x := ⟨rfl, rfl, rfl, rfl, Nat.le_refl _, fun _ h => ⟨h, fun _ => ⟨rfl, fun _ h => h⟩⟩, [], rfl, .nil, fun D h => by cases h⟩
theorem Marks.trans {x x' x'' : Ctx} (h : Marks x x') (k : Marks x' x'') : Marks x x'' := by
  refine ⟨k.w.trans h.w, k.S.trans h.S, k.env.trans h.env, k.nt.trans h.nt, Nat.le_trans h.le k.le, fun b hb => ⟨(k.keep b (h.keep b hb).1).1, fun hlt => ?_⟩, ?_⟩
  · obtain ⟨h1, h2⟩ := (h.keep b hb).2 hlt
    obtain ⟨k1, k2⟩ := (k.keep b (h.keep b hb).1).2 (Nat.lt_of_lt_of_le hlt h.le)
    exact ⟨k1.trans h1, fun o hh => h2 o (k2 o hh)⟩
  · obtain ⟨Ds, d1, d2, d3⟩ := h.df
    obtain ⟨Es, e1, e2, e3⟩ := k.df
    refine ⟨Es ++ Ds, by rw [e1, d1, List.map_append, List.append_assoc], List.nodup_append.2 ⟨e2, d2, fun a ha b hb => ?_⟩, fun D hD => ?_⟩
    · have := (e3 a ha).2.2.2.1
      have := (Array.getElem?_eq_some_iff.1 (d3 b hb).2.1).1
      omega
    · rcases List.mem_append.1 hD with hD | hD
      · obtain ⟨p1, p2, p3, p4, p5⟩ := e3 D hD
        exact ⟨p1, p2, by rw [← h.w]; exact p3, Nat.le_trans h.le p4, p5⟩
      · obtain ⟨p1, p2, p3, p4, p5⟩ := d3 D hD
        obtain ⟨q1, q2⟩ := k.keep D p1
        obtain ⟨q3, q4⟩ := q2 (Array.getElem?_eq_some_iff.1 p2).1
        exact ⟨q1, q3.trans p2, p3, p4, fun o hh => p5 o (q4 o hh)⟩

/-- Where code that may range over functions leads. -/
def awpM (P : Program) (env : Env) (nt : Nat) (c : Code) (Q : Exit → St → Prop) (s : St) : Prop :=
  ∀ x : Ctx, x.env = env → x.nt = nt → ∀ a w m, Sim x s a w m → c.wpIn (fen none) 3 P (fun e a' w' => ∃ s' m' x', Q e s' ∧ Marks x x' ∧ Sim x' s' a' w' m') a w
section
variable {P : Program} {env : Env} {nt : Nat} {Q : Exit → St → Prop} {s : St}
theorem awpM_of {c : Code} (h : awp P env nt c Q s) : awpM P env nt c Q s := fun x he hn a w m hS => wpIn_mono (h none x he hn a w m hS) fun _ _ _ ⟨s', m', h1, h2⟩ => ⟨s', m', x, h1, .refl x, h2⟩
theorem awpM_mono {c : Code} {Q' : Exit → St → Prop} (h : awpM P env nt c Q s) (hq : ∀ e s, Q e s → Q' e s) : awpM P env nt c Q' s :=
  fun x he hn a w m hS => wpIn_mono (h x he hn a w m hS) fun _ _ _ ⟨s', m', x', h1, h2⟩ => ⟨s', m', x', hq _ _ h1, h2⟩
theorem awpM_seq {c d : Code} (h : awpM P env nt c (thenA (awpM P env nt d Q) Q) s) : awpM P env nt (.seq c d) Q s := fun x he hn a w m hS => by
  refine wpIn_seq (wpIn_mono (h x he hn a w m hS) ?_)
  rintro e a' w' ⟨s', m', x', h1, hM, h2⟩
  cases e with
  | normal => exact wpIn_mono (h1 x' (hM.env.trans he) (hM.nt.trans hn) a' w' m' h2) fun _ _ _ ⟨s'', m'', x'', k1, k2, k3⟩ => ⟨s'', m'', x'', k1, hM.trans k2, k3⟩
  | _ => exact ⟨s', m', x', h1, hM, h2⟩
theorem awpM_seqA {c d : Code} (h : awp P env nt c (thenA (awpM P env nt d Q) Q) s) : awpM P env nt (.seq c d) Q s := awpM_seq (awpM_of h)
theorem awpM_cond {y : Operand} {c d : Code} {b : Bool} (hy : gt env s.f y = .lit (.bool b)) (h1 : b = true → awpM P env nt c Q s) (h2 : b = false → awpM P env nt d Q s) : awpM P env nt (.cond y c d) Q s := fun x he hn a w m hS => by
  have hv := gt_ok hS y
  rw [he, hy] at hv
  exact wpIn_cond_split hv.lit_ (fun hb => h1 hb x he hn a w m hS) (fun hb => h2 hb x he hn a w m hS)
theorem awpM_block {id : Nat} {c : Code} (h : awpM P env nt c (blockA id Q) s) : awpM P env nt (.block id c) Q s := fun x he hn a w m hS => by
  refine wpIn_block (wpIn_mono (h x he hn a w m hS) ?_)
  rintro e a' w' ⟨s', m', x', h1, h2⟩
  cases e with
  | exit id' =>
    show if id' = id then _ else _
    have h1 : if id' = id then Q .normal s' else Q (.exit id') s' := h1
    split
    · rename_i hid; rw [if_pos hid] at h1; exact ⟨s', m', x', h1, h2⟩
    · rename_i hid; rw [if_neg hid] at h1; exact ⟨s', m', x', h1, h2⟩
  | _ => exact ⟨s', m', x', h1, h2⟩
theorem awpM_less {c : Code} {s' : St} (hl : Less s s') (h : awpM P env nt c Q s') : awpM P env nt c Q s := fun x he hn a w m hS => h x he hn a w m (hS.less hl)
theorem awpM_head {c : Code} (F : List (Nat × AV)) (R : List (Nat × Row)) (hF : HoldF s F) (hR : HoldR s R) (h : awpM P env nt c Q (head F R s.vs s.esc)) : awpM P env nt c Q s := awpM_less (less_headS hF hR) h
theorem awpM_loop {D : Type} {c : Code} (F : D → (Nat → Nat) → List (Nat × AV)) (R : D → (Nat → Nat) → List (Nat × Row)) (inv : D → (Nat → Nat) → (Nat → Bool) → Prop) (μ : D → Nat) (d0 : D) (h0 : inv d0 s.vs s.esc)
    (hF : HoldF s (F d0 s.vs)) (hR : HoldR s (R d0 s.vs))
    (round : ∀ d vs esc, inv d vs esc → awpM P env nt c (thenA (fun s1 => ∃ d', inv d' s1.vs s1.esc ∧ HoldF s1 (F d' s1.vs) ∧ HoldR s1 (R d' s1.vs) ∧ μ d' < μ d) Q) (head (F d vs) (R d vs) vs esc)) : awpM P env nt (.loop c) Q s := fun x he hn a w m hS => by
  refine wpIn_loop_ghost (fun n a w => ∃ d vs esc m x', inv d vs esc ∧ μ d = n ∧ Marks x x' ∧ Sim x' (head (F d vs) (R d vs) vs esc) a w m) (μ d0) ⟨d0, s.vs, s.esc, m, x, h0, rfl, .refl x, hS.less (less_headS hF hR)⟩ ?_
  rintro n a w ⟨d, vs, esc, m, x', hi, rfl, hM, hS⟩
  refine wpIn_mono (round d vs esc hi x' (hM.env.trans he) (hM.nt.trans hn) a w m hS) ?_
  rintro e a' w' ⟨s', m', x'', h1, hM', h2⟩
  cases e with
  | normal =>
    obtain ⟨d', q1, q2, q3, q4⟩ := h1
    exact ⟨μ d', q4, d', s'.vs, s'.esc, m', x'', q1, rfl, hM.trans hM', h2.less (less_headS q2 q3)⟩
  | _ => exact ⟨s', m', x'', h1, hM.trans hM', h2⟩
end

/-! At a function's end -/
theorem leaves_marks {P : Program} {F : Fence} {n : Nat} {fn : Func} {s : St} {a : Act} {m : Mem} {R : Ending → World → Prop} {B : World} {T : Nat → Nat → Prop} (fin : ∀ (x : Ctx) (w : World), x.w = B → x.S = T → Sim x s a w m → ∃ v, (results fn a.tmps).run P w = .ok v w ∧ R (.returned v) w) :
    ∀ (Ds : List Nat) (x : Ctx) (w : World), x.w = B → x.S = T → Sim x s a w m → Ds.Nodup → (∀ D ∈ Ds, x.fx D ∧ x.fw.heap[D]? = some (.deferred (some [])) ∧ x.w.heap.size ≤ D ∧ ∀ o, ¬ x.fm.S D o) → LeavesInM F n P fn a.tmps R (Ds.map markOf) .returning w
  | [], x, w, hB, hT, hS, _, _ => fin x w hB hT hS
  | D :: Ds, x, w, hB, hT, hS, hn, hD => by
    obtain ⟨p1, p2, p3, p4⟩ := hD D (by simp)
    have hn := List.nodup_cons.1 hn
    obtain ⟨q1, q2, q3⟩ := hS.fix D p1
    refine ⟨by simp, .inl ⟨D, _, rfl, run_takeDeferred (q2.trans p2), ?_⟩⟩
    refine leaves_marks fin Ds { x with fx := fun b => x.fx b ∧ b ≠ D } _ hB hT ((hS.fewer (fun b => x.fx b ∧ b ≠ D) fun _ h => h.1).turned (.deferred none) p3 (fun o hh => p4 o (q3 o hh)) (fun h => h.2 rfl) fun r row hr hg => hS.nofx r row hr D hg p1) hn.2 fun E hE => ?_
    obtain ⟨e1, e2, e3, e4⟩ := hD E (by simp [hE])
    exact ⟨⟨e1, fun e => hn.1 (e ▸ hE)⟩, e2, e3, e4⟩
section
variable {P : Program} {env : Env} {f : FuncId} {cs : List AV} {res : AV}
theorem con_of_bodyM {fn : Func} {c : Code} (hf : P.funcs[f]? = some fn) (hb : fn.body = some c) (henter : ∀ (args : Array Value) (w : World), (callFunc f args).run P w = .ok (.enter f args) w) (hn : cs.length ≤ fn.ntmps)
    (h : awpM P env fn.ntmps c (retW P fn.results.toList res) (St.init cs)) : Con P env f cs res := by
  refine ⟨henter, fun w S vs hE hl hv => ?_⟩
  refine callsIn_wide.1 (callsIn_of_wp_marks (n := 3) hf hb trivial ?_)
  have hS : Sim ⟨w, S, env, fn.ntmps, w, ⟨S, fun _ => undef⟩, St.init cs, fun _ => False, []⟩ (St.init cs) { tmps := vs.toArray ++ Array.replicate (fn.ntmps - vs.toArray.size) undef, defers := [] } w ⟨S, fun _ => undef⟩ := by
    refine ⟨Below.refl _ _, hE.low, fun _ _ h => h, fun _ _ h => .inl h, hE.env, hE.low, hE.inv, rfl, by simp; omega, fun t => ?_, (fun r row hr => by cases hr), (fun r r' row row' hr => by cases hr), (fun _ _ hh => ⟨hh, .rfl⟩), (fun _ => Nat.le_refl _), (fun r row' _ hr => by cases hr), Nat.le_refl _, (fun _ h => h.elim), (fun r row hr => by cases hr)⟩
    show RL w _ _ _ (cs.getD t .any)
    by_cases ht : t < cs.length
    · refine .val (hv t _ _ ?_ ?_)
      · rw [Array.getD_eq_getD_getElem?, Array.getElem?_append_left (by simp; omega)]
        simp [show t < vs.length by omega]
      · simp [List.getD, ht]
    · have : cs.getD t .any = .any := by simp [List.getD, List.getElem?_eq_none (Nat.le_of_not_lt ht)]
      rw [this]
      exact .val (.any _)
  refine wpIn_mono (h _ rfl rfl _ w _ hS) ?_
  rintro e a' w' ⟨s', m', x', h1, hM, h2⟩
  have key : retW P fn.results.toList res .normal s' → LeavesInM Fence.wide 3 P fn a'.tmps (fun e w' => ∃ v, e = .returned v ∧ Below w.heap.size w w' ∧ ∃ S', (∀ b o, S b o → S' b o) ∧ (∀ b o, S' b o → S b o ∨ w.heap.size ≤ b) ∧ (∀ b o, S' b o → b < w'.heap.size) ∧ RR S' w' w.heap.size v res) a'.defers .returning w' := fun h1 => by
    obtain ⟨res', h1, hw⟩ := (show ∃ res', (resRd P s'.f fn.results.toList).run s' = some res' ∧ RStr res' res from h1)
    obtain ⟨Ds, d1, d2, d3⟩ := hM.df
    have hd : a'.defers = Ds.map markOf := by rw [h2.dfs, d1]; exact List.append_nil _
    rw [hd]
    refine leaves_marks (B := w) (T := S) (fun x'' w'' hB hT hS'' => ?_) Ds x' w' hM.w hM.S h2 d2 fun D hD => ?_
    · obtain ⟨v, S', p1, p2, p3, p4, p5⟩ := ret_ok (fn := fn) h1 hS''
      rw [hB] at p3 p5
      rw [hT] at p2 p3
      exact ⟨v, p1, v, rfl, by have := hS''.bel; rw [hB] at this; exact this, S', p2, p3, p4, hw _ _ _ _ p5⟩
    · obtain ⟨q1, q2, q3, q4, q5⟩ := d3 D hD
      exact ⟨q1, q2, by rw [hM.w]; exact q3, q5⟩
  cases e with
  | normal => exact key h1
  | ret => exact key h1
  | _ => exact h1.elim
end

/-! The statement itself -/
/-- An iterator hands over ks, one by one, to whatever keeps what holds between its rounds. -/
structure Iters (P : Program) (f : FuncId) (first : Array Value) (ks : List Value) (Tab : World → Prop) : Prop where
  enter : ∀ (args : Array Value) (w : World), (callFunc f args).run P w = .ok (.enter f args) w
  walk : ∀ (l : Nat) (J : Nat → World → Prop) (w : World), (∀ i W, J i W → Tab W) → (∀ i W W', J i W → Below W.heap.size W W' → J i W') →
    (∀ i W k, J i W → ks[i]? = some k → YieldAt Fence.wide 1 P l #[k] W fun e W' => e = .returned (.bool true) ∧ J (i + 1) W') → J 0 w →
    CallsIn Fence.wide 2 P f (first ++ #[.func (.yield l) #[] #[]]) w fun e W' => (∃ v, e = .returned v) ∧ J ks.length W'

theorem Iters.mono {P : Program} {f : FuncId} {first : Array Value} {ks : List Value} {Tab Tab' : World → Prop} (h : Iters P f first ks Tab) (ht : ∀ W, Tab' W → Tab W) : Iters P f first ks Tab' :=
  ⟨h.enter, fun l J w h1 => h.walk l J w fun i W hj => ht W (h1 i W hj)⟩
section
variable {P : Program} {env : Env} {nt : Nat} {Q : Exit → St → Prop} {s : St}
theorem awpM_range {D : Type} {g p : Nat} {assign body : Code} {f : FuncId} {first : Array Value} {ks : List Value} (R : Nat → D → (Nat → Nat) → List (Nat × Row)) (inv : Nat → D → (Nat → Nat) → (Nat → Bool) → Prop) (d0 : D)
    (hg : s.f g = .lit (.func (.func f) first #[])) (hp : p < nt) (hit : Iters P f first ks env.inv) (h0 : inv 0 d0 s.vs s.esc) (hR : HoldR s (R 0 d0 s.vs))
    (round : ∀ i d k vs esc, (∀ r, s.vs r ≤ vs r) → inv i d vs esc → ks[i]? = some k →
      awp P env nt assign (thenA (awp P env nt body (thenA (fun s1 => ∃ d', inv (i + 1) d' s1.vs s1.esc ∧ HoldR s1 (R (i + 1) d' s1.vs)) fun _ _ => False)) fun _ _ => False) ⟨upd s.f p (.lit k), headR (R i d vs), vs, esc⟩)
    (done : ∀ d vs esc, (∀ r, s.vs r ≤ vs r) → inv ks.length d vs esc → Q .normal ⟨s.f, headR (R ks.length d vs), vs, esc⟩) : awpM P env nt (.rangeFunc (.tmp g) #[p] assign body) Q s := fun x he hn a w m hS => by
  have hgv : a.eval (.tmp g) = .func (.func f) first #[] := by
    have := hS.slot g
    rw [hg] at this
    exact this.lit_
  refine wpIn_rangeFunc fun fn hfn => ?_
  -- what is laid: the block for the rounds' deferred calls, the record
  let rec_ (st : LoopState) : Obj := .loop { state := st, pending := none, fn, tmps := a.tmps, params := #[p], assign, body, defers := w.heap.size }
  let w2 : World := (w.alloc (.deferred (some []))).alloc (rec_ .ready)
  have hw2 : Below w.heap.size w w2 := ((Below.refl _ w).alloc (Nat.le_refl _) _).alloc (by simp) _
  have hsz : w2.heap.size = w.heap.size + 2 := by simp [w2]
  have hD2 : w2.heap[w.heap.size]? = some (.deferred (some [])) := by
    rw [show w2.heap[w.heap.size]? = (w.alloc (.deferred (some []))).heap[w.heap.size]? from Below.heap_alloc _ _ _ (by simp)]
    exact World.alloc_heap_new w _
  have hl2 : w2.heap[w.heap.size + 1]? = some (rec_ .ready) := by
    have := World.alloc_heap_new (w.alloc (.deferred (some []))) (rec_ .ready)
    rwa [World.size_alloc] at this
  refine ⟨w.heap.size + 1, [markOf w.heap.size], w2, ⟨.fn (.func f) #[], first ++ #[.func (.yield (w.heap.size + 1)) #[] #[]]⟩, w2, f, first ++ #[.func (.yield (w.heap.size + 1)) #[] #[]], w2, ?_, ?_, fun _ _ => trivial, ?_, fun h => (by cases h), ?_⟩
  · rw [show (fen none).round = none from rfl]
    exact run_enterLoop_outer fn a.tmps #[p] assign body
  · have hc : a.eval (.const (.func (.yield (w.heap.size + 1)) #[] #[])) = .func (.yield (w.heap.size + 1)) #[] #[] := rfl
    simp [resolve, hgv, hc, Deferred.ofValue]
  · simp [invoke, hit.enter]
  -- the frame goes on from here
  let a0 : Act := { a with defers := [markOf w.heap.size] ++ a.defers }
  let fx0 : Nat → Prop := fun b => x.fx b ∨ b = w.heap.size
  have hlow : ∀ b o, m.S b o → b < w.heap.size := hS.low
  have hblk : ∀ r row, s.rows r = some row → ∀ k, (m.ρ r).ownBlock = some k → k < w.heap.size := fun r row hr k hk => ((hS.rows r row hr).blk hk).2
  have hS2 : Sim x s a w2 m := hS.called hw2 (fun _ _ h => h) (fun _ _ h => .inl h) fun b o h => by have := hlow b o h; omega
  let x0 : Ctx := x.again s w2 m fx0 ([markOf w.heap.size] ++ x.df)
  have hS0 : Sim x0 s a0 w2 m := hS2.take (fx := fx0) (fun b hb => by
    rcases hb with hb | rfl
    · exact ⟨hS2.fxlt hb, fun r row hr hg => hS2.nofx r row hr b hg hb⟩
    · exact ⟨by omega, fun r row hr hg => by have := hblk r row hr _ hg; omega⟩) rfl (by show [markOf w.heap.size] ++ a.defers = _; rw [hS.dfs])
  have hM : Marks x x0 := by
    refine ⟨rfl, rfl, rfl, rfl, ?_, fun b hb => ⟨.inl hb, fun hlt => ⟨?_, fun o hh => (hS2.fix b hb).2.2 o hh⟩⟩, [w.heap.size], rfl, by simp, fun E hE => ?_⟩
    · exact hS2.fwle
    · exact (hS2.fix b hb).2.1
    · obtain rfl : E = w.heap.size := by simpa using hE
      exact ⟨.inr rfl, hD2, hS.bel.size, hS.fwle, fun o hh => by have := hlow _ o hh; omega⟩
  let st : Nat → D → (Nat → Nat) → (Nat → Bool) → St := fun i d vs esc => ⟨s.f, headR (R i d vs), vs, esc⟩
  let J : Nat → World → Prop := fun i W => ∃ d vs esc m', inv i d vs esc ∧ (∀ r, s.vs r ≤ vs r) ∧ Sim x0 (st i d vs esc) a0 W m' ∧ W.heap[w.heap.size + 1]? = some (rec_ .ready) ∧ (∀ o, ¬ m'.S (w.heap.size + 1) o) ∧ ∀ r row, headR (R i d vs) r = some row → (m'.ρ r).ownBlock ≠ some (w.heap.size + 1)
  have hnx : ¬ x0.fx (w.heap.size + 1) := fun hb => by
    rcases hb with hb | hb
    · have := hS.fxlt hb; omega
    · omega
  have hlx : x0.w.heap.size ≤ w.heap.size + 1 := Nat.le_trans hS.bel.size (Nat.le_succ _)
  refine (hit.walk (w.heap.size + 1) J w2 ?_ ?_ ?_ ?_).mono ?_
  · rintro i W ⟨d, vs, esc, m', _, _, h, _⟩
    have := h.envOk.inv
    rw [show x0.env = env from he] at this
    exact this
  · rintro i W W' ⟨d, vs, esc, m', h1, h2, h3, h4, h5, h6⟩ hb
    exact ⟨d, vs, esc, m', h1, h2, h3.called hb (fun _ _ h => h) (fun _ _ h => .inl h) (fun b o h => Nat.lt_of_lt_of_le (h3.low b o h) hb.size), (hb.block _ (Array.getElem?_eq_some_iff.1 h4).1).trans h4, h5, h6⟩
  · rintro i W k ⟨d, vs, esc, m', h1, h2, h3, h4, h5, h6⟩ hk
    refine ⟨fn, _, assign, body, run_yield h4 rfl, roundIn_of_wpIn trivial ?_⟩
    have hact : (⟨(#[p].zip #[k]).foldl (fun tmps (t, a) => tmps.setIfInBounds t a) a.tmps, []⟩ : Act) = (⟨a.tmps, []⟩ : Act).put (some p) k := by simp [Act.put]
    show Code.wpIn _ _ _ _ _ (⟨(#[p].zip #[k]).foldl (fun tmps (t, a) => tmps.setIfInBounds t a) a.tmps, []⟩ : Act) W
    rw [hact]
    -- the round's own frame
    let fx1 : Nat → Prop := fun b => x0.fx b ∨ b = w.heap.size + 1
    have hlW : w.heap.size + 1 < W.heap.size := (Array.getElem?_eq_some_iff.1 h4).1
    have hS1 : Sim (x0.again (st i d vs esc) W m' fx1 []) (st i d vs esc) ⟨a.tmps, []⟩ W m' := h3.take (fx := fx1) (fun b hb => by
      rcases hb with hb | rfl
      · exact ⟨h3.fxlt hb, fun r row hr hg => h3.nofx r row hr b hg hb⟩
      · exact ⟨hlW, h6⟩) rfl rfl
    have hS1' := hS1.put (some p) (fun t ht => by cases ht; exact hn ▸ hp) (v := k) (c := .lit k) (.val (.lit k))
    have hstate : (st i d vs esc).put (some p) (.lit k) = ⟨upd s.f p (.lit k), headR (R i d vs), vs, esc⟩ := rfl
    rw [hstate] at hS1'
    refine fen_any (ro := some (w.heap.size + 1)) (n := 3) (wpIn_mono (round i d k vs esc h2 h1 hk (some (w.heap.size + 1)) (x0.again (st i d vs esc) W m' fx1 []) he hn _ W m' hS1') ?_)
    rintro e a1 W1 ⟨s1, m1, g1, g2⟩
    cases e with
    | normal =>
      -- the assignment is done: the record is busy
      obtain ⟨-, hl1, hf1⟩ := g2.fix (w.heap.size + 1) (.inr rfl)
      have hl1 : W1.heap[w.heap.size + 1]? = some (rec_ .ready) := hl1.trans h4
      have hf1 : ∀ o, ¬ m1.S (w.heap.size + 1) o := fun o hh => h5 o (hf1 o hh)
      have hr1 : ∀ r row, s1.rows r = some row → (m1.ρ r).ownBlock ≠ some (w.heap.size + 1) := fun r row hr hg => g2.nofx r row hr _ hg (.inr rfl)
      refine ⟨_, run_beginRound hl1 rfl, ?_⟩
      have hU2 := (h3.untake g2 (fun b hb => .inl hb) rfl rfl).turned (.loop { state := .busy, pending := none, fn, tmps := a.tmps, params := #[p], assign, body, defers := w.heap.size }) hlx hf1 hnx hr1
      have hI := ((g2.fewer x0.fx fun b hb => .inl hb).turned (.loop { state := .busy, pending := none, fn, tmps := a.tmps, params := #[p], assign, body, defers := w.heap.size }) hlx hf1 hnx hr1).take (fx := fx1) (fun b hb => by
        rcases hb with hb | rfl
        · exact ⟨hU2.fxlt hb, fun r row hr hg => hU2.nofx r row hr b hg hb⟩
        · exact ⟨by rw [World.putObj_size]; exact (Array.getElem?_eq_some_iff.1 hl1).1, hr1⟩) rfl g2.dfs
      refine fen_any (ro := some (w.heap.size + 1)) (n := 3) (wpIn_mono ((show awp P env nt body _ s1 from g1) (some (w.heap.size + 1)) (x0.again s1 (W1.putObj (w.heap.size + 1) (.loop { state := .busy, pending := none, fn, tmps := a.tmps, params := #[p], assign, body, defers := w.heap.size })) m1 fx1 []) he hn _ _ m1 hI) ?_)
      rintro e a2 W3 ⟨s2, m2, k1, k2⟩
      cases e with
      | normal =>
        obtain ⟨d', q1, q2⟩ := (show ∃ d', inv (i + 1) d' s2.vs s2.esc ∧ HoldR s2 (R (i + 1) d' s2.vs) from k1)
        obtain ⟨-, hl3, hf3⟩ := k2.fix (w.heap.size + 1) (.inr rfl)
        have hl3 : W3.heap[w.heap.size + 1]? = some (rec_ .busy) := hl3.trans (World.putObj_heap_same (Array.getElem?_eq_some_iff.1 hl1).1)
        have hf3 : ∀ o, ¬ m2.S (w.heap.size + 1) o := fun o hh => hf1 o (hf3 o hh)
        have hr3 : ∀ r row, s2.rows r = some row → (m2.ρ r).ownBlock ≠ some (w.heap.size + 1) := fun r row hr hg => k2.nofx r row hr _ hg (.inr rfl)
        have hls := (less_headS (s := s2) (F := []) (R := R (i + 1) d' s2.vs) trivial q2).rows
        refine ⟨_, _, run_endRound none hl3, rfl, d', s2.vs, s2.esc, m2, q1, fun r => Nat.le_trans (h2 r) (Nat.le_trans (g2.evV r) (k2.evV r)), ?_, World.putObj_heap_same (Array.getElem?_eq_some_iff.1 hl3).1, hf3, fun r row hr hg => ?_⟩
        · exact ((hU2.untake k2 (fun b hb => .inl hb) rfl rfl).turned _ hlx hf3 hnx hr3).less ⟨fun t => .inl rfl, hls, rfl, rfl⟩
        · rcases hls r with h | h
          · exact hr3 r row (h.symm.trans hr) hg
          · have h : headR (R (i + 1) d' s2.vs) r = none := h
            rw [h] at hr
            cases hr
      | _ => exact k1.elim
    | _ => exact g1.elim
  · have hls := (less_headS (s := s) (F := []) (R := R 0 d0 s.vs) trivial hR).rows
    have hless : Less s (st 0 d0 s.vs s.esc) := ⟨fun t => .inl rfl, hls, rfl, rfl⟩
    refine ⟨d0, s.vs, s.esc, m, h0, fun _ => Nat.le_refl _, hS0.less hless, hl2, fun o hh => by have := hlow _ o hh; omega, fun r row hr hg => ?_⟩
    rcases hls r with h | h
    · have := hblk r row (h.symm.trans hr) _ hg
      omega
    · have h : headR (R 0 d0 s.vs) r = none := h
      rw [h] at hr
      cases hr
  · rintro e W ⟨⟨v, rfl⟩, d, vs, esc, m', h1, h2, h3, h4, h5, h6⟩
    refine ⟨none, _, run_endLoop h4 (by simp), ?_⟩
    refine ⟨st ks.length d vs esc, m', x0, done d vs esc h2 h1, hM, h3.turned _ hlx h5 hnx h6⟩
end

/-! Rows that freeze, by their contents -/
def seesR (vs : Nat → Nat) (R : List (Nat × Row)) : List (Nat × Nat × AV) := R.map fun p => (p.1, vs p.1, .seq p.2.sz p.2.es)
theorem holdR_mem {s : St} : ∀ {R : List (Nat × Row)}, HoldR s R → ∀ p ∈ R, s.rows p.1 = some p.2
  | [], _, p, hp => by cases hp
  | q :: R, h, p, hp => by
    rcases List.mem_cons.1 hp with rfl | hp
    · exact h.1
    · exact holdR_mem h.2 p hp
theorem awp_seesR {P : Program} {env : Env} {nt : Nat} {c : Code} {Q : Exit → St → Prop} {s : St} (R : List (Nat × Row)) (hR : HoldR s R) (h : awp P env nt c Q (seenSt s (seesR s.vs R))) (hp : (R.all fun p => p.2.pure && p.2.sz != 0) = true := by rfl) : awp P env nt c Q s :=
  awp_sees (seesR s.vs R) (fun q hq => by
    obtain ⟨p, h1, rfl⟩ := List.mem_map.1 hq
    have := List.all_eq_true.1 hp p h1
    rw [Bool.and_eq_true, bne_iff_ne] at this
    exact ⟨rfl, p.2, holdR_mem hR p h1, this.2, this.1, rfl⟩) h
end Go.Proofs.YtaonccobohiiiaaDoor
