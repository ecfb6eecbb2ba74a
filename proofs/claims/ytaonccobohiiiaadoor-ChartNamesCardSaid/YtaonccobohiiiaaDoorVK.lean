/- Calls of the library's that cut a row of the call's own short. No program is named here. -/
import Derived.Test.YtaonccobohiiiaaDoorVF
namespace Go.Proofs.YtaonccobohiiiaaDoor
open Go.RowKit

/-- A function that is handed a row of plain values, turns it and hands back a beginning of it. -/
structure Cuts (P : Program) (f : FuncId) (e : TypeId) (sz : Nat) (ls ls' : List (List Value)) : Prop where
  enter : ∀ (args : Array Value) (w : World), (callFunc f args).run P w = .ok (.enter f args) w
  els : ∀ l ∈ ls', l.length = sz ∧ ∀ u ∈ l, u.oneCell' = true
  calls : ∀ (w : World) (base : Nat) (v : Value), w.ownsRow base e sz v ls.length ls.flatten →
    Calls P f #[v] w fun ex w' => ∃ v', ex = .returned v' ∧ v'.oneCell' = true ∧ w.grownBy w' v.ownBlock ∧ (∀ g, v'.ownBlock = some g → v.ownBlock = some g) ∧ w'.ownsRow base e sz v' ls'.length ls'.flatten
theorem lits_flat {S : Nat → Nat → Prop} {w : World} {row : Row} {ls : List (List Value)} {xs : List Value} (hls : ∀ l ∈ ls, l.length = row.sz) (hpos : 0 < row.sz) (hxl : xs.length = ls.length * row.sz) (e5 : row.es = litEs ls)
    (k3 : ∀ (i j : Nat) (c : AV), cellAt row.es i j = some c → ∃ u, xs[i * row.sz + j]? = some u ∧ RV S w u c) : xs = ls.flatten := by
  apply List.ext_getElem?
  intro p
  have hfl := flatten_len ls hls
  by_cases hp : p < ls.length * row.sz
  · have hi : p / row.sz < ls.length := Nat.div_lt_of_lt_mul (by rw [Nat.mul_comm]; exact hp)
    have hj : p % row.sz < row.sz := Nat.mod_lt _ hpos
    have hpq : p / row.sz * row.sz + p % row.sz = p := Nat.div_add_mod' p row.sz
    have hl := hls _ (List.getElem_mem hi)
    have hju : (ls[p / row.sz])[p % row.sz]? = some ((ls[p / row.sz])[p % row.sz]'(by omega)) := List.getElem?_eq_getElem _
    have h1 := flatten_at ls hls _ _ _ _ (List.getElem?_eq_getElem hi) hju
    obtain ⟨u, h2, h3⟩ := k3 (p / row.sz) (p % row.sz) (.lit ((ls[p / row.sz])[p % row.sz]'(by omega))) (by
      rw [e5]
      unfold cellAt litEs
      rw [List.getElem?_map, List.getElem?_eq_getElem hi]
      simp only [Option.map_some, Option.bind_some, List.getElem?_map, hju])
    rw [hpq] at h1 h2
    have : u = (ls[p / row.sz])[p % row.sz]'(by omega) := by cases h3; rfl
    rw [h1, h2, this]
  · rw [List.getElem?_eq_none (by omega), List.getElem?_eq_none (by omega)]
theorem acts_cut {P : Program} {env : Env} {f : FuncId} {r ver : Nat} {row : Row} {rows : Nat → Option Row} {vsv : Nat → Nat} {ls ls' : List (List Value)} (hC : Cuts P f row.e row.sz ls ls') (hr : rows r = some row) (hv : vsv r = ver) (hrz : row.sz ≠ 0) (hp : row.pure = true) (e5 : row.es = litEs ls) :
    Acts P env f [.row r ver] [r] rows vsv ⟨.row r (ver + 1), [.renew r { row with es := litEs ls' }]⟩ := by
  refine ⟨hC.enter, fun x s a w m vs hx hS hro hl hvs => ?_⟩
  obtain ⟨q1, q2, q3⟩ := hro r (by simp)
  rw [hr] at q1
  rw [hv] at q2
  match vs, hl with
  | [u], _ =>
  have hu : u = m.ρ r := (hvs 0 u _ rfl rfl).row_.2 q2 row q1
  subst hu
  have k := (hS.rows r row q1).cells hrz
  obtain ⟨xs, k1, k2, k3⟩ := k.own
  have hn : row.es.length = ls.length := by rw [e5]; simp [litEs]
  have hls : ∀ l ∈ ls, l.length = row.sz := fun l hl => by
    obtain ⟨i, hi, rfl⟩ := List.getElem_of_mem hl
    have := k.len i ((ls[i]).map .lit) (by rw [e5]; simp [litEs, hi])
    simpa using this
  have hxx : xs = ls.flatten := lits_flat hls k.pos (by rw [← hn]; exact k1.1) e5 fun i j c hc => by
    obtain ⟨u, h1, h2⟩ := k3 i j c hc
    rw [if_pos hp] at h2
    exact ⟨u, h1, h2⟩
  rw [hxx, hn] at k1
  refine (hC.calls w x.w.heap.size (m.ρ r) k1).mono ?_
  rintro ex w' ⟨v', rfl, h1, hg, hsub, ho⟩
  have hb : Below x.w.heap.size w w' := ⟨hg.os, hg.tape, hg.output, hg.size, fun q hq => hg.block q (Nat.lt_of_lt_of_le hq hS.bel.size) fun e => by
    have := (own_block k1 e.symm).1
    omega⟩
  have hnS : ∀ g, (m.ρ r).ownBlock = some g → ∀ o, ¬ m.S g o := k.fresh q3
  have hcell : ∀ b o, m.S b o → Stay w w' b o := fun b o hh => .block (hg.block b (hS.low b o hh) fun e => hnS b e.symm o hh)
  have hlow : ∀ b o, m.S b o → b < w'.heap.size := fun b o hh => Nat.lt_of_lt_of_le (hS.low b o hh) hg.size
  have hS2 : Sim x (s.renew r { row with es := litEs ls' } false) a w' ⟨m.S, upd m.ρ r v'⟩ := by
    refine hS.renew r _ false v' m.S hb (fun b o hh => ⟨hh, hcell b o hh⟩) (fun b o hh => .inl hh) (fun q row1 hne hq gq hgq => ⟨?_, fun e => ?_, fun _ hh => hh⟩) ?_ fun b hf => ⟨hg.block b (hS.fxlt hf) fun e => hS.nofx r row q1 b e.symm hf, fun _ hh => hh, fun e => hS.nofx r row q1 b (hsub b e) hf⟩
    · exact hg.block gq ((hS.rows q row1 hq).blk hgq).2 fun e => hS.inj r q row row1 q1 hq (Ne.symm hne) gq e.symm hgq
    · exact hS.inj r q row row1 q1 hq (Ne.symm hne) gq (hsub gq e) hgq
    · have hel : ∀ (i : Nat) (e : List AV), (litEs ls')[i]? = some e → e.length = row.sz := fun i e he => by
        unfold litEs at he
        rw [List.getElem?_map] at he
        cases hl : ls'[i]? with
        | none => rw [hl] at he; cases he
        | some l =>
          rw [hl] at he
          cases he
          simpa using (hC.els l (List.mem_of_getElem? hl)).1
      have hll : (litEs ls').length = ls'.length := by unfold litEs; rw [List.length_map]
      have hρ : (⟨m.S, upd m.ρ r v'⟩ : Mem).ρ r = v' := upd_same ..
      refine .inl ⟨k.pos, hel, ⟨ls'.flatten, by rw [hρ]; show w'.ownsRow _ _ _ _ (litEs ls').length _; rw [hll]; exact ho, ?_, ?_⟩, fun he => ?_, fun g hg' o _ => ?_, fun _ g hg' o => ?_⟩
      · intro u hu
        obtain ⟨l, hl, hul⟩ := List.mem_flatten.1 hu
        exact (hC.els l hl).2 u hul
      · intro i j c hcc
        obtain ⟨l, u, h1, h2, rfl⟩ := litEs_at hcc
        refine ⟨u, flatten_at ls' (fun l hl => (hC.els l hl).1) i j l u h1 h2, ?_⟩
        show if row.pure = true then _ else _
        rw [if_pos hp]
        exact .lit u
      · have he : upd s.esc r false r = true := he
        rw [upd_same] at he
        cases he
      · rw [hρ] at hg'; exact hnS g (hsub g hg') o
      · rw [hρ] at hg'; exact hnS g (hsub g hg') o
  refine ⟨v', _, rfl, hS2, .row r (ver + 1) h1 ?_ fun _ row' _ => ?_⟩
  · show ver + 1 ≤ upd s.vs r (s.vs r + 1) r
    rw [upd_same, q2]
    exact Nat.le_refl _
  · show v' = upd m.ρ r v' r
    rw [upd_same]
section
variable {P : Program} {env : Env} {s : St}
theorem aops_cut {o : Oper} {f : FuncId} {args : List AV} {rest : List Stp} {s1 : St} {row : Row} {ls ls' : List (List Value)} {ft : Foot} {K : St → List Foot → Prop} (r : Nat) (hc : callOf env s.f o = some (f, args)) (hC : Cuts P f row.e row.sz ls ls') (hrz : row.sz ≠ 0) (hp : row.pure = true) (e5 : row.es = litEs ls)
    (ha : Is args [.row r (s.vs r)]) (hr : Is (s.rows r) (some row)) (he : Is (s.esc r) false) (h1 : Is ((⟨.row r (s.vs r + 1), [.renew r { row with es := litEs ls' }]⟩ : Out).app o.dst s) s1) (h2 : Is (⟨[r], [r], [r], []⟩ : Foot) ft) (k : aops P env rest s1 fun s2 fts => K s2 (ft :: fts)) : aops P env (⟨o, .always⟩ :: rest) s K := by
  unfold Is at h2
  subst h2
  exact aops_acts hc ha (acts_cut hC hr rfl hrz hp e5) (fun q hq => by rw [List.mem_singleton.1 hq]; exact he) h1 k
theorem g_turn {o : Oper} {f : FuncId} {args : List AV} {rest : List Stp} {s1 : St} {row : Row} {ls ls' : List (List Value)} {K : St → List Foot → Prop} (r : Nat) (hc : callOf env s.f o = some (f, args)) (hT : Turns P f [] row.e row.sz ls ls') (hrz : row.sz ≠ 0) (hp : row.pure = true) (e5 : row.es = litEs ls)
    (ha : Is args [.row r (s.vs r)]) (hr : Is (s.rows r) (some row)) (he : Is (s.esc r) false) (h1 : Is ((s.setRow r { row with es := litEs ls' }).put o.dst .any) s1) (k : aops P env rest s1 fun s2 fts => K s2 (⟨[r], [r], [r], []⟩ :: fts)) : aops P env (⟨o, .always⟩ :: rest) s K :=
  aops_turn (rs := []) r hc (show args = _ from ha) hr he hT e5 hp hrz h1 k
end
end Go.Proofs.YtaonccobohiiiaaDoor
