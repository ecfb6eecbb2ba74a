/- Sorts and Compact of the library: the shelf's contracts laid at this program (written by the kit's lay-plain.mjs, its numbers by name). -/
import Derived.Test.YtlmekdfleciejaaGreatDoorM9
import Derived.Test.YtlmekdfleciejaaGreatDoorM4
import Derived.Shelf.Sort.Plain
import Derived.Shelf.Slices.CompactS
import Derived.Ground.NamesProg
import Derived.Test.YtlmekdfleciejaaGreatDoorProg
namespace Go.Proofs.YtlmekdfleciejaaGreatDoor
open Go.RowKit
structure Cuts (P : Program) (f : FuncId) (e : TypeId) (sz : Nat) (ls ls' : List (List Value)) : Prop where
  enter : ∀ (args : Array Value) (w : World), (callFunc f args).run P w = .ok (.enter f args) w
  els : ∀ l ∈ ls', l.length = sz ∧ ∀ u ∈ l, u.oneCell' = true
  calls : ∀ (w : World) (base : Nat) (v : Value), w.ownsRow base e sz v ls.length ls.flatten →
    Calls P f #[v] w fun ex w' => ∃ v', ex = .returned v' ∧ v'.oneCell' = true ∧ w.grownBy w' v.ownBlock ∧ (∀ g, v'.ownBlock = some g → v.ownBlock = some g) ∧ w'.ownsRow base e sz v' ls'.length ls'.flatten
theorem lits_flat {S : Nat → Nat → Prop} {w : World} {row : Row} {ls : List (List Value)} {xs : List Value} (hls : ∀ l ∈ ls, l.length = row.sz) (hpos : 0 < row.sz) (hxl : xs.length = ls.length * row.sz) (e5 : row.es = litEs ls)
    (k3 : ∀ (i j : Nat) (c : AV), cellAt row.es i j = some c → ∃ u, xs[i * row.sz + j]? = some u ∧ RV S w u c) : xs = ls.flatten := by
  apply List.ext_getElem?
  intro p
  have hfl := flatten_len ls hls
  by_cases hp : p < ls.length * row.sz
  · have hi : p / row.sz < ls.length := Nat.div_lt_of_lt_mul (by rw [Nat.mul_comm]; exact hp)
    have hj : p % row.sz < row.sz := Nat.mod_lt _ hpos
    have hpq : p / row.sz * row.sz + p % row.sz = p := Nat.div_add_mod' p row.sz
    have hl := hls _ (List.getElem_mem hi)
    have hju : (ls[p / row.sz])[p % row.sz]? = some ((ls[p / row.sz])[p % row.sz]'(by omega)) := List.getElem?_eq_getElem _
    have h1 := flatten_at ls hls _ _ _ _ (List.getElem?_eq_getElem hi) hju
    obtain ⟨u, h2, h3⟩ := k3 (p / row.sz) (p % row.sz) (.lit ((ls[p / row.sz])[p % row.sz]'(by omega))) (by
      rw [e5]
      unfold cellAt litEs
      rw [List.getElem?_map, List.getElem?_eq_getElem hi]
      simp only [Option.map_some, Option.bind_some, List.getElem?_map, hju])
    rw [hpq] at h1 h2
    have : u = (ls[p / row.sz])[p % row.sz]'(by omega) := by cases h3; rfl
    rw [h1, h2, this]
  · rw [List.getElem?_eq_none (by omega), List.getElem?_eq_none (by omega)]
theorem acts_cut {P : Program} {env : Env} {f : FuncId} {r ver : Nat} {row : Row} {rows : Nat → Option Row} {vsv : Nat → Nat} {ls ls' : List (List Value)} (hC : Cuts P f row.e row.sz ls ls') (hr : rows r = some row) (hv : vsv r = ver) (hrz : row.sz ≠ 0) (hp : row.pure = true) (e5 : row.es = litEs ls) :
    Acts P env f [.row r ver] [r] rows vsv ⟨.row r (ver + 1), [.renew r { row with es := litEs ls' }]⟩ := by
  refine ⟨hC.enter, fun x s a w m vs hx hS hro hl hvs => ?_⟩
  obtain ⟨q1, q2, q3⟩ := hro r (by simp)
  rw [hr] at q1
  rw [hv] at q2
  match vs, hl with
  | [u], _ =>
  have hu : u = m.ρ r := (hvs 0 u _ rfl rfl).row_.2 q2 row q1
  subst hu
  have k := (hS.rows r row q1).cells hrz
  obtain ⟨xs, k1, k2, k3⟩ := k.own
  have hn : row.es.length = ls.length := by rw [e5]; simp [litEs]
  have hls : ∀ l ∈ ls, l.length = row.sz := fun l hl => by
    obtain ⟨i, hi, rfl⟩ := List.getElem_of_mem hl
    have := k.len i ((ls[i]).map .lit) (by rw [e5]; simp [litEs, hi])
    simpa using this
  have hxx : xs = ls.flatten := lits_flat hls k.pos (by rw [← hn]; exact k1.1) e5 fun i j c hc => by
    obtain ⟨u, h1, h2⟩ := k3 i j c hc
    rw [if_pos hp] at h2
    exact ⟨u, h1, h2⟩
  rw [hxx, hn] at k1
  refine (hC.calls w x.w.heap.size (m.ρ r) k1).mono ?_
  rintro ex w' ⟨v', rfl, h1, hg, hsub, ho⟩
  have hb : Below x.w.heap.size w w' := ⟨hg.os, hg.tape, hg.output, hg.size, fun q hq => hg.block q (Nat.lt_of_lt_of_le hq hS.bel.size) fun e => by
    have := (own_block k1 e.symm).1
    omega⟩
  have hnS : ∀ g, (m.ρ r).ownBlock = some g → ∀ o, ¬ m.S g o := k.fresh q3
  have hcell : ∀ b o, m.S b o → Stay w w' b o := fun b o hh => .block (hg.block b (hS.low b o hh) fun e => hnS b e.symm o hh)
  have hlow : ∀ b o, m.S b o → b < w'.heap.size := fun b o hh => Nat.lt_of_lt_of_le (hS.low b o hh) hg.size
  have hS2 : Sim x (s.renew r { row with es := litEs ls' } false) a w' ⟨m.S, upd m.ρ r v'⟩ := by
    refine hS.renew r _ false v' m.S hb (fun b o hh => ⟨hh, hcell b o hh⟩) (fun b o hh => .inl hh) (fun q row1 hne hq gq hgq => ⟨?_, fun e => ?_, fun _ hh => hh⟩) ?_ fun b hf => ⟨hg.block b (hS.fxlt hf) fun e => hS.nofx r row q1 b e.symm hf, fun _ hh => hh, fun e => hS.nofx r row q1 b (hsub b e) hf⟩
    · exact hg.block gq ((hS.rows q row1 hq).blk hgq).2 fun e => hS.inj r q row row1 q1 hq (Ne.symm hne) gq e.symm hgq
    · exact hS.inj r q row row1 q1 hq (Ne.symm hne) gq (hsub gq e) hgq
    · have hel : ∀ (i : Nat) (e : List AV), (litEs ls')[i]? = some e → e.length = row.sz := fun i e he => by
        unfold litEs at he
        rw [List.getElem?_map] at he
        cases hl : ls'[i]? with
        | none => rw [hl] at he; cases he
        | some l =>
          rw [hl] at he
          cases he
          simpa using (hC.els l (List.mem_of_getElem? hl)).1
      have hll : (litEs ls').length = ls'.length := by unfold litEs; rw [List.length_map]
      have hρ : (⟨m.S, upd m.ρ r v'⟩ : Mem).ρ r = v' := upd_same ..
      refine .inl ⟨k.pos, hel, ⟨ls'.flatten, by rw [hρ]; show w'.ownsRow _ _ _ _ (litEs ls').length _; rw [hll]; exact ho, ?_, ?_⟩, fun he => ?_, fun g hg' o _ => ?_, fun _ g hg' o => ?_⟩
      · intro u hu
        obtain ⟨l, hl, hul⟩ := List.mem_flatten.1 hu
        exact (hC.els l hl).2 u hul
      · intro i j c hcc
        obtain ⟨l, u, h1, h2, rfl⟩ := litEs_at hcc
        refine ⟨u, flatten_at ls' (fun l hl => (hC.els l hl).1) i j l u h1 h2, ?_⟩
        show if row.pure = true then _ else _
        rw [if_pos hp]
        exact .lit u
      · have he : upd s.esc r false r = true := he
        rw [upd_same] at he
        cases he
      · rw [hρ] at hg'; exact hnS g (hsub g hg') o
      · rw [hρ] at hg'; exact hnS g (hsub g hg') o
  refine ⟨v', _, rfl, hS2, .row r (ver + 1) h1 ?_ fun _ row' _ => ?_⟩
  · show ver + 1 ≤ upd s.vs r (s.vs r + 1) r
    rw [upd_same, q2]
    exact Nat.le_refl _
  · show v' = upd m.ρ r v' r
    rw [upd_same]
section
variable {P : Program} {env : Env} {s : St}
theorem aops_cut {o : Oper} {f : FuncId} {args : List AV} {rest : List Stp} {s1 : St} {row : Row} {ls ls' : List (List Value)} {ft : Foot} {K : St → List Foot → Prop} (r : Nat) (hc : callOf env s.f o = some (f, args)) (hC : Cuts P f row.e row.sz ls ls') (hrz : row.sz ≠ 0) (hp : row.pure = true) (e5 : row.es = litEs ls)
    (ha : Is args [.row r (s.vs r)]) (hr : Is (s.rows r) (some row)) (he : Is (s.esc r) false) (h1 : Is ((⟨.row r (s.vs r + 1), [.renew r { row with es := litEs ls' }]⟩ : Out).app o.dst s) s1) (h2 : Is (⟨[r], [r], [r], []⟩ : Foot) ft) (k : aops P env rest s1 fun s2 fts => K s2 (ft :: fts)) : aops P env (⟨o, .always⟩ :: rest) s K := by
  unfold Is at h2
  subst h2
  exact aops_acts hc ha (acts_cut hC hr rfl hrz hp e5) (fun q hq => by rw [List.mem_singleton.1 hq]; exact he) h1 k
theorem g_turn {o : Oper} {f : FuncId} {args : List AV} {rest : List Stp} {s1 : St} {row : Row} {ls ls' : List (List Value)} {K : St → List Foot → Prop} (r : Nat) (hc : callOf env s.f o = some (f, args)) (hT : Turns P f [] row.e row.sz ls ls') (hrz : row.sz ≠ 0) (hp : row.pure = true) (e5 : row.es = litEs ls)
    (ha : Is args [.row r (s.vs r)]) (hr : Is (s.rows r) (some row)) (he : Is (s.esc r) false) (h1 : Is ((s.setRow r { row with es := litEs ls' }).put o.dst .any) s1) (k : aops P env rest s1 fun s2 fts => K s2 (⟨[r], [r], [r], []⟩ :: fts)) : aops P env (⟨o, .always⟩ :: rest) s K :=
  aops_turn (rs := []) r hc (show args = _ from ha) hr he hT e5 hp hrz h1 k
end
end Go.Proofs.YtlmekdfleciejaaGreatDoor
namespace Go.Proofs.YtlmekdfleciejaaGreatDoor
open Go.RowKit Go.Sort Go.Shelf Go.Lib
theorem heap_put {w : World} {g n : Nat} {os : Array Obj} {cur : Array Value} {e : TypeId} {fr : Nat × Nat} (F : Array Value) (hb : w.heap[g]? = some (.cells cur e fr)) :
    (grow (putRow id (Sort.ahead w n) g 0 F) os).heap[g]? = some (.cells (putCells id 0 F cur) e fr) := by
  have hg : g < w.heap.size := (Array.getElem?_eq_some_iff.1 hb).1
  rw [heap_grow_old _ _ (by simpa [putRow, mapBlock, Sort.ahead] using hg)]
  simp [putRow, mapBlock, Sort.ahead, Array.getElem?_modify, hb, onCells]
theorem grownBy_put {w : World} {g n : Nat} {os : Array Obj} (F : Array Value) : w.grownBy (grow (putRow id (Sort.ahead w n) g 0 F) os) (some g) := by
  refine ⟨rfl, rfl, rfl, by simp [putRow, mapBlock, Sort.ahead], fun k hk hne => ?_⟩
  rw [heap_grow_old _ _ (by simpa [putRow, mapBlock, Sort.ahead] using hk)]
  have : g ≠ k := fun e => hne (by rw [e])
  simp [putRow, mapBlock, Sort.ahead, Array.getElem?_modify, this]
theorem take_put (cur F : Array Value) (h : F.size ≤ cur.size) : (putCells id 0 F cur).toList.take F.size = F.toList := by
  apply List.ext_getElem?
  intro j
  by_cases hj : j < F.size
  · rw [List.getElem?_take_of_lt hj, Array.getElem?_toList]
    simp [putCells, hj, show j < cur.size by omega]
  · rw [List.getElem?_take_eq_none (by omega), List.getElem?_eq_none (by simp; omega)]
theorem turns_base {P : Program} {f : FuncId} {rest : List Value} {e : TypeId} {sz : Nat} {ls ls' : List (List Value)} (hne : 0 < ls.length) (henter : ∀ (args : Array Value) (w : World), (callFunc f args).run P w = .ok (.enter f args) w)
    (hl : ls'.length = ls.length) (hls : ∀ l ∈ ls, l.length = sz) (hel : ∀ l ∈ ls', l.length = sz ∧ ∀ u ∈ l, u.oneCell' = true)
    (h : ∀ (w : World) (g cap : Nat), Holds id w g 0 ls.flatten.toArray → g < w.heap.size → Calls P f (.slice (some ⟨g, 0, none⟩) ls.length cap :: rest).toArray w fun ex w' => ex = .returned (.tuple #[]) ∧ ∃ n os, w' = grow (putRow id (Sort.ahead w n) g 0 ls'.flatten.toArray) os) :
    Turns P f rest e sz ls ls' := by
  refine ⟨henter, hl, hel, fun w base v ho => ?_⟩
  have hf := flatten_len ls hls
  have hf' := flatten_len ls' fun l hl => (hel l hl).1
  rcases ho.2 with ⟨_, h0⟩ | ⟨g, cap, cur, rfl, hbase, hb, h1, h2, h3, h4⟩
  · omega
  have hsz : ls.length * sz ≤ cur.size := by rw [h3]; exact Nat.mul_le_mul_right _ h1
  have hg : g < w.heap.size := (Array.getElem?_eq_some_iff.1 hb).1
  refine (h w g cap (fun j hj => ⟨?_, by simp [World.frozen?, hb]⟩) hg).mono ?_
  · have hj' : j < ls.flatten.length := by simpa using hj
    have e1 : (cur.toList.take (ls.length * sz))[j]? = ls.flatten[j]? := by rw [h4]
    rw [List.getElem?_take_of_lt (by omega)] at e1
    simp only [World.cell?, hb, Nat.zero_add]
    simp only [Option.isSome_none, Bool.false_eq_true, if_false]
    rw [← Array.getElem?_toList, e1, getElem!_pos _ j hj, List.getElem?_eq_getElem hj']
    rfl
  · rintro ex w' ⟨rfl, n, os, rfl⟩
    refine ⟨rfl, grownBy_put _, by rw [hf', hl], .inr ⟨g, cap, _, rfl, hbase, heap_put _ hb, h1, h2, by simp [putCells, h3], ?_⟩⟩
    have := take_put cur ls'.flatten.toArray (by simp [hf', hl]; exact hsz)
    rw [show ls'.flatten.toArray.size = ls.length * sz by simp [hf', hl]] at this
    exact this
theorem turns_none {P : Program} {f : FuncId} {rest : List Value} {e : TypeId} {sz : Nat} (henter : ∀ (args : Array Value) (w : World), (callFunc f args).run P w = .ok (.enter f args) w)
    (h : ∀ (p : Option Addr) (cap : Nat) (w : World), Calls P f (.slice p 0 cap :: rest).toArray w fun ex w' => ex = .returned (.tuple #[]) ∧ w' = w) : Turns P f rest e sz [] [] := by
  refine ⟨henter, rfl, fun l hl => by simp at hl, fun w base v ho => ?_⟩
  have key : ∃ p cap, v = .slice p 0 cap := by
    rcases ho.2 with ⟨rfl, _⟩ | ⟨g, cap, cur, rfl, _⟩
    · exact ⟨_, _, rfl⟩
    · exact ⟨_, _, rfl⟩
  obtain ⟨p, cap, rfl⟩ := key
  refine (h p cap w).mono ?_
  rintro ex w' ⟨rfl, rfl⟩
  exact ⟨rfl, ⟨rfl, rfl, rfl, Nat.le_refl _, fun _ _ _ => rfl⟩, ho⟩
section
variable {α : Type} [Inhabited α]
theorem putRow_id (enc : α → Value) (w : World) (g : Nat) (d : Array α) : putRow enc w g 0 d = putRow id w g 0 (d.map enc) := by
  unfold putRow
  refine mapBlock_congr _ _ _ _ fun c _ _ _ => ?_
  apply Array.ext_getElem?
  intro k
  simp only [putCells, Array.getElem?_mapIdx, Array.size_map]
  cases c[k]? with
  | none => rfl
  | some y =>
    simp only [Option.map_some, Nat.sub_zero, Nat.zero_add]
    by_cases hk : 0 ≤ k ∧ k < d.size
    · rw [if_pos hk, if_pos hk]; simp [hk.2]
    · rw [if_neg hk, if_neg hk]
end
end Go.Proofs.YtlmekdfleciejaaGreatDoor
namespace Go.Proofs
open Go.Shelf
def Tryz.sortS_ren : Go.Shelf.Ren := ⟨fun | 190 => 138 | 125 => 166 | 258 => 185 | 128 => 209 | 129 => 210 | 302 => 223 | 303 => 224 | 304 => 225 | 305 => 226 | 306 => 227 | 307 => 228 | 308 => 132 | 309 => 229 | 310 => 230 | 333 => 245 | 329 => 236 | 330 => 237 | 334 => 246 | 335 => 247 | 336 => 176 | 344 => 252 | n => n, fun | 31 => 45 | 9 => 9 | 3 => 3 | 46 => 159 | 0 => 0 | 51 => 126 | 53 => 233 | 4 => 4 | 183 => 227 | 182 => 226 | 131 => 80 | 5 => 5 | 218 => 248 | 222 => 252 | 228 => 257 | 229 => 54 | n => n, fun | n => n⟩
theorem Tryz.sortS : Go.Proofs.Lays.n190 Tryz.prog Tryz.sortS_ren := {
  mixed := by kernel_rfl
  f125 := Tryz.func166.trans (congrArg some (by kernel_rfl))
  f128 := Tryz.func209.trans (congrArg some (by kernel_rfl))
  f129 := Tryz.func210.trans (congrArg some (by kernel_rfl))
  f190 := Tryz.func138.trans (congrArg some (by kernel_rfl))
  f258 := Tryz.func185.trans (congrArg some (by kernel_rfl))
  f302 := Tryz.func223.trans (congrArg some (by kernel_rfl))
  f303 := Tryz.func224.trans (congrArg some (by kernel_rfl))
  f304 := Tryz.func225.trans (congrArg some (by kernel_rfl))
  f305 := Tryz.func226.trans (congrArg some (by kernel_rfl))
  f306 := Tryz.func227.trans (congrArg some (by kernel_rfl))
  f307 := Tryz.func228.trans (congrArg some (by kernel_rfl))
  f308 := Tryz.func132.trans (congrArg some (by kernel_rfl))
  f309 := Tryz.func229.trans (congrArg some (by kernel_rfl))
  f310 := Tryz.func230.trans (congrArg some (by kernel_rfl))
  f329 := Tryz.func236.trans (congrArg some (by kernel_rfl))
  f330 := Tryz.func237.trans (congrArg some (by kernel_rfl))
  f333 := Tryz.func245.trans (congrArg some (by kernel_rfl))
  f334 := Tryz.func246.trans (congrArg some (by kernel_rfl))
  f335 := Tryz.func247.trans (congrArg some (by kernel_rfl))
  f336 := Tryz.func176.trans (congrArg some (by kernel_rfl))
  f344 := Tryz.func252.trans (congrArg some (by kernel_rfl))
  t0 := Tryz.underlying0
  a0 := Tryz.isAgg0
  z0 := Tryz.sizeOf0
  v0 := Tryz.zeroValue0
  t3 := Tryz.underlying3
  a3 := Tryz.isAgg3
  z3 := Tryz.sizeOf3
  v3 := Tryz.zeroValue3
  t4 := Tryz.underlying4
  a4 := Tryz.isAgg4
  z4 := Tryz.sizeOf4
  v4 := Tryz.zeroValue4
  t5 := Tryz.underlying5
  a5 := Tryz.isAgg5
  z5 := Tryz.sizeOf5
  v5 := Tryz.zeroValue5
  t9 := Tryz.underlying9
  a9 := Tryz.isAgg9
  z9 := Tryz.sizeOf9
  v9 := Tryz.zeroValue9
  t31 := Tryz.underlying45
  a31 := Tryz.isAgg45
  z31 := Tryz.sizeOf45
  v31 := Tryz.zeroValue45
  t46 := Tryz.underlying159
  a46 := Tryz.isAgg159
  z46 := Tryz.sizeOf159
  v46 := Tryz.zeroValue159
  t51 := Tryz.underlying126
  a51 := Tryz.isAgg126
  z51 := Tryz.sizeOf126
  v51 := Tryz.zeroValue126
  t53 := Tryz.underlying233
  a53 := Tryz.isAgg233
  z53 := Tryz.sizeOf233
  v53 := Tryz.zeroValue233
  t131 := Tryz.underlying80
  a131 := Tryz.isAgg80
  z131 := Tryz.sizeOf80
  v131 := Tryz.zeroValue80
  t182 := Tryz.underlying226
  a182 := Tryz.isAgg226
  z182 := Tryz.sizeOf226
  v182 := Tryz.zeroValue226
  t183 := Tryz.underlying227
  a183 := Tryz.isAgg227
  z183 := Tryz.sizeOf227
  v183 := Tryz.zeroValue227
  t218 := Tryz.underlying248
  a218 := Tryz.isAgg248
  z218 := Tryz.sizeOf248
  v218 := Tryz.zeroValue248
  t222 := Tryz.underlying252
  a222 := Tryz.isAgg252
  z222 := Tryz.sizeOf252
  v222 := Tryz.zeroValue252
  t228 := Tryz.underlying257
  a228 := Tryz.isAgg257
  z228 := Tryz.sizeOf257
  v228 := Tryz.zeroValue257
  t229 := Tryz.underlying54
  a229 := Tryz.isAgg54
  z229 := Tryz.sizeOf54
  v229 := Tryz.zeroValue54 }
def Tryz.compS_ren : Go.Shelf.Ren := ⟨fun | 194 => 139 | n => n, fun | 31 => 45 | 9 => 9 | 3 => 3 | 4 => 4 | 0 => 0 | n => n, fun | n => n⟩
theorem Tryz.compS : Go.Proofs.Lays.n194 Tryz.prog Tryz.compS_ren := {
  mixed := by kernel_rfl
  f194 := Tryz.func139.trans (congrArg some (by kernel_rfl))
  t0 := Tryz.underlying0
  a0 := Tryz.isAgg0
  z0 := Tryz.sizeOf0
  v0 := Tryz.zeroValue0
  t3 := Tryz.underlying3
  a3 := Tryz.isAgg3
  z3 := Tryz.sizeOf3
  v3 := Tryz.zeroValue3
  t4 := Tryz.underlying4
  a4 := Tryz.isAgg4
  z4 := Tryz.sizeOf4
  v4 := Tryz.zeroValue4
  t9 := Tryz.underlying9
  a9 := Tryz.isAgg9
  z9 := Tryz.sizeOf9
  v9 := Tryz.zeroValue9
  t31 := Tryz.underlying45
  a31 := Tryz.isAgg45
  z31 := Tryz.sizeOf45
  v31 := Tryz.zeroValue45 }
end Go.Proofs
