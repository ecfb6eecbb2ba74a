/- A function that tells the keys of a map of the call's own, in order. No program is named here. -/
import Derived.Test.YtaonccobohiiiaaDoorVX
import Derived.Sort.KeysCollected
namespace Go.Proofs.YtaonccobohiiiaaDoor
open Go.RowKit

/-- Keys of texts, a number beside each. -/
def EntsOf (ents : Array MapEntry) (ks : List (List UInt8)) : Prop := ∀ (i : Nat) (en : MapEntry), ents[i]? = some en → ∃ k n, ks[i]? = some k ∧ en.key = encStr k ∧ en.val = .int .i64 n
structure KeysIn (P : Program) (f : FuncId) (e : TypeId) : Prop where
  enter : ∀ (args : Array Value) (w : World), (callFunc f args).run P w = .ok (.enter f args) w
  calls : ∀ (w : World) (g : Nat) (ents : Array MapEntry) (clock : Nat) (ks : List (List UInt8)), w.heap[g]? = some (.map ents clock) → Dense ents clock ks.length → EntsOf ents ks → ks.Nodup → ks.length ≤ 1000000 → (∀ k ∈ ks, k.length ≤ maxLen) →
    Calls P f #[.map (some g)] w fun ex w' => ∃ v, ex = .returned v ∧ Below w.heap.size w w' ∧ w'.ownsRow w.heap.size e 1 v ks.length ((ks.mergeSort leB).map encStr)
theorem acts_keys {P : Program} {env : Env} {f : FuncId} {r d ver : Nat} {e : TypeId} {row : Row} {rows : Nat → Option Row} {vsv : Nat → Nat} {ks : List (List UInt8)} {ns : List Int} (hC : KeysIn P f e) (hr : rows r = some row) (hv : vsv r = ver) (hsz : row.sz = 0) (hp : row.pure = true)
    (hes : row.es = (ks.zip ns).map fun p => [AV.lit (.string ⟨p.1.toArray⟩), AV.lit (.int .i64 p.2)]) (hn : ns.length = ks.length) (hnd : ks.Nodup) (hl : ks.length ≤ 1000000) (hk : ∀ k ∈ ks, k.length ≤ maxLen) :
    Acts P env f [.mp r ver] [r, d] rows vsv ⟨.row d (vsv d + 1), [.renew d ⟨1, (ks.mergeSort leB).map fun k => [AV.lit (.string ⟨k.toArray⟩)], e, true⟩]⟩ := by
  refine ⟨hC.enter, fun x s a w m vs hx hS hro hlv hvs => ?_⟩
  obtain ⟨q1, q2, _⟩ := hro r (by simp)
  obtain ⟨_, d2, _⟩ := hro d (by simp)
  rw [hr] at q1
  rw [hv] at q2
  obtain ⟨v, rfl⟩ : ∃ v, vs = [v] := by
    match vs, hlv with
    | [v], _ => exact ⟨v, rfl⟩
  obtain ⟨g, hg, rfl⟩ := ((hvs 0 v _ rfl rfl).mp_).2 q2 row q1
  obtain ⟨g', ents, clock, m1, m2, m3, m4, m5⟩ := ((hS.rows r row q1).map hsz).own
  have hgg : g' = g := by
    rw [m1] at hg
    injection hg
  subst hgg
  have hlen : row.es.length = ks.length := by rw [hes, List.length_map, List.length_zip, hn, Nat.min_self]
  rw [hlen] at m4
  have hE : EntsOf ents ks := fun i en hi => by
    have hi2 := (Array.getElem?_eq_some_iff.1 hi).1
    rw [m4.1] at hi2
    obtain ⟨k, hk1⟩ : ∃ k, ks[i]? = some k := ⟨ks[i], List.getElem?_eq_getElem hi2⟩
    obtain ⟨n, hn1⟩ : ∃ n, ns[i]? = some n := ⟨ns[i]'(by omega), List.getElem?_eq_getElem (by omega)⟩
    have hrow : row.es[i]? = some [AV.lit (.string ⟨k.toArray⟩), AV.lit (.int .i64 n)] := by rw [hes, List.getElem?_map, show (ks.zip ns)[i]? = some (k, n) from List.getElem?_zip_eq_some.2 ⟨hk1, hn1⟩]; rfl
    obtain ⟨en2, kc, vc, p1, p2, p3, p4⟩ := m5 i _ hrow
    rw [hi] at p1
    cases p1
    cases p2
    rw [if_pos hp] at p4
    refine ⟨k, n, hk1, ?_, ?_⟩
    · generalize en.key = kv at p3
      cases p3
      rfl
    · generalize en.val = nv at p4
      cases p4
      rfl
  refine (hC.calls w g' ents clock ks m3 m4 hE hnd hl hk).mono fun ex w' ⟨v, e1, hb, ho⟩ => ?_
  subst e1
  have hS' : Sim x s a w' ⟨m.S, m.ρ⟩ := hS.called hb (fun _ _ h => h) (fun _ _ h => .inl h) (fun b o h => Nat.lt_of_lt_of_le (hS.low b o h) hb.size)
  have hll : (ks.mergeSort leB).length = ks.length := List.length_mergeSort ..
  have hR : RR m.S w' w.heap.size v (.own e 1 ((ks.mergeSort leB).map fun k => [AV.lit (.string ⟨k.toArray⟩)])) := by
    refine ⟨_, by rw [List.length_map, hll]; exact ho, Nat.one_pos, ⟨?_, ?_, ?_, ?_⟩, fun g hgv o hh => ?_⟩
    · rw [List.length_map, List.length_map, Nat.mul_one]
    · intro u hu
      obtain ⟨k, _, rfl⟩ := List.mem_map.1 hu
      rfl
    · intro i e he
      rw [List.getElem?_map] at he
      cases hi : (ks.mergeSort leB)[i]? with
      | none => rw [hi] at he; cases he
      | some k => rw [hi] at he; cases he; rfl
    · intro i j c hc
      unfold cellAt at hc
      rw [List.getElem?_map] at hc
      cases hi : (ks.mergeSort leB)[i]? with
      | none => rw [hi] at hc; cases hc
      | some k =>
        rw [hi] at hc
        cases j with
        | succ j => cases hc
        | zero =>
          cases hc
          exact ⟨encStr k, by rw [Nat.mul_one, Nat.add_zero, List.getElem?_map, hi]; rfl, .lit _⟩
    · have := (own_block ho hgv).1
      have := hS.low g o hh
      omega
  obtain ⟨m', t1, t2⟩ := adopt_ok (d := some d) hS' (base := w.heap.size) hS.bel.size hS.fwle (fun r' row' hr' g hg => ((hS.rows r' row' hr').blk hg).2) rfl hR
  refine ⟨v, m', rfl, t1, ?_⟩
  rw [← d2]
  exact t2
section
variable {P : Program} {env : Env} {s : St}
theorem aops_keys {o : Oper} {f : FuncId} {args : List AV} {rest : List Stp} {s1 : St} {e : TypeId} {ft : Foot} {K : St → List Foot → Prop} (r d : Nat) (row : Row) (ks : List (List UInt8)) (ns : List Int) (hc : callOf env s.f o = some (f, args)) (hC : KeysIn P f e) (hsz : row.sz = 0) (hp : row.pure = true) (hes : row.es = (ks.zip ns).map fun p => [AV.lit (.string ⟨p.1.toArray⟩), AV.lit (.int .i64 p.2)]) (hn : ns.length = ks.length) (hnd : ks.Nodup) (hl : ks.length ≤ 1000000) (hk : ∀ k ∈ ks, k.length ≤ maxLen)
    (ha : Is args [.mp r (s.vs r)]) (hr : Is (s.rows r) (some row)) (he : Is (s.esc r) false) (he2 : Is (s.esc d) false) (h1 : Is ((⟨.row d (s.vs d + 1), [.renew d ⟨1, (ks.mergeSort leB).map fun k => [AV.lit (.string ⟨k.toArray⟩)], e, true⟩]⟩ : Out).app o.dst s) s1) (h2 : Is (⟨[r, d], [r, d], [d], []⟩ : Foot) ft) (k : aops P env rest s1 fun s2 fts => K s2 (ft :: fts)) : aops P env (⟨o, .always⟩ :: rest) s K := by
  unfold Is at h2
  subst h2
  exact aops_acts hc ha (acts_keys hC hr rfl hsz hp hes hn hnd hl hk) (fun q hq => by
    rcases List.mem_cons.1 hq with rfl | hq
    · exact he
    · rw [List.mem_singleton.1 hq]; exact he2) h1 k
end
/-! What the keys of such a map are, to the kit's words -/
open Go.Maps in
def anyR : Value → Option (DataW Unit × List MemPlace) := fun _ => some (.lit (.bool true), [])
open Go.WideElems (Fit rd rg rd_key rg_of rd_mk) in
theorem owns_keys {P : Program} {k : TypeId} (hk : P.underlying k = some .string) {w : World} {g : Nat} {ents : Array MapEntry} {clock : Nat} {ks : List (List UInt8)} (hg : w.heap[g]? = some (.map ents clock)) (hD : Dense ents clock ks.length) (hE : EntsOf ents ks) (hnd : ks.Nodup) (hl : ks.length ≤ 1000000) (hb : ∀ x ∈ ks, x.length ≤ maxLen) :
    ∃ D, w.ownsMap P k anyR g ks.length D ∧ Maps.size D = ks.length ∧ (∀ x : List UInt8, Maps.has D (.string x) = true ↔ x ∈ ks) := by
  obtain ⟨d1, d2, d3⟩ := hD
  have hrd : ∀ (i : Nat) (en : MapEntry), ents[i]? = some en → ∃ x, ks[i]? = some x ∧ rd P k anyR en = some (.string x, .lit (.bool true)) := fun i en hi => by
    obtain ⟨x, n, h1, h2, _⟩ := hE i en hi
    refine ⟨x, h1, ?_⟩
    have hkey : keyOf P k en.key = some (.string x) := by
      rw [h2]
      have := Go.WideMaps.keyOf_string_mk hk (s := ⟨x.toArray⟩) (by
        have := hb x (List.mem_of_getElem? h1)
        show x.toArray.size ≤ maxLen
        rw [List.size_toArray]
        exact this)
      simpa using this
    unfold rd
    rw [hkey]
    rfl
  have hat : ∀ en ∈ ents.toList, ∃ i, ents[i]? = some en := fun en he => by
    obtain ⟨i, hi⟩ := List.mem_iff_getElem?.1 he
    exact ⟨i, by simpa using hi⟩
  have hF : Fit P k anyR ents clock := by
    refine ⟨by rw [d1]; unfold maxLen; omega, (MapKept.stamped_iff ents clock).2 ⟨fun en he => ?_, ?_, ?_⟩, fun en he => ?_⟩
    · obtain ⟨i, hi⟩ := hat en he
      have := (Array.getElem?_eq_some_iff.1 hi).1
      rw [d3 i en hi]
      omega
    · have : ents.toList.map (·.born) = List.range ents.size := by
        apply List.ext_getElem?
        intro i
        rw [List.getElem?_map]
        by_cases hi : i < ents.size
        · rw [List.getElem?_range hi, show ents.toList[i]? = some ents[i] by simp [hi]]
          simp only [Option.map_some]
          rw [d3 i ents[i] (by simp [hi])]
        · rw [List.getElem?_eq_none (by simp; omega), List.getElem?_eq_none (by simp; omega)]
          rfl
      rw [this]
      exact List.nodup_range
    · rw [List.pairwise_iff_getElem]
      intro i j hi hj hij e
      obtain ⟨x, n, h1, h2, _⟩ := hE i ents.toList[i] (by simp)
      obtain ⟨y, n2, h3, h4, _⟩ := hE j ents.toList[j] (by simp)
      rw [h2, h4] at e
      have exy := encStr_inj e
      subst exy
      obtain ⟨q1, q2⟩ := List.getElem?_eq_some_iff.1 h1
      obtain ⟨q3, q4⟩ := List.getElem?_eq_some_iff.1 h3
      have := (List.getElem_inj hnd (h₀ := q1) (h₁ := q3)).1 (q2.trans q4.symm)
      omega
    · obtain ⟨i, hi⟩ := hat en he
      obtain ⟨x, _, h2⟩ := hrd i en hi
      exact ⟨_, h2⟩
  refine ⟨_, ⟨ents, clock, hg, hF, by omega, rfl⟩, ?_, fun x => ?_⟩
  · rw [Maps.size_eq, (Go.WideShapes.sorted_perm _).length_eq, List.length_map]
    simpa using d1
  · rw [Maps.has_eq, List.any_eq_true]
    constructor
    · rintro ⟨p, hp, hs⟩
      obtain ⟨en, he, rfl⟩ := List.mem_map.1 (mem_sorted.1 hp)
      obtain ⟨i, hi⟩ := hat en he
      obtain ⟨y, h1, h2⟩ := hrd i en hi
      rw [rg_of h2] at hs
      have := WideAt.sameKey_eq hs
      injection this with this
      subst this
      exact List.mem_of_getElem? h1
    · intro hx
      obtain ⟨i, hi⟩ := List.mem_iff_getElem?.1 hx
      have hlt := (List.getElem?_eq_some_iff.1 hi).1
      have hen : ents[i]? = some (ents[i]'(by omega)) := by simp
      obtain ⟨y, h1, h2⟩ := hrd i _ hen
      rw [hi] at h1
      cases h1
      refine ⟨(.string x, .lit (.bool true)), mem_sorted.2 (List.mem_map.2 ⟨_, by simp, rg_of h2⟩), ?_⟩
      simp [Lit.sameKey]
theorem keys_end {D : DataW Unit} {left : Lit → Bool} {ss ks : List (List UInt8)} (hC : Collected D left ss) (h0 : ∀ kl, left kl = false) (hnd : ks.Nodup) (hh : ∀ x : List UInt8, Maps.has D (.string x) = true ↔ x ∈ ks) : ss.Perm ks := by
  refine (List.perm_ext_iff_of_nodup hC.1 hnd).2 fun x => ?_
  rw [hC.2 x, hh x]
  exact ⟨fun h => h.1, fun h => ⟨h, h0 _⟩⟩
end Go.Proofs.YtaonccobohiiiaaDoor
