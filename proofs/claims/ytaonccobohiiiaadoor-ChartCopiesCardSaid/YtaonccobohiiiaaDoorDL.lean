/- A copy that leans on new memory alone; memory that is spoilt in some of its cells. -/
import Derived.Test.YtaonccobohiiiaaDoorDI
import Derived.Test.YtaonccobohiiiaaDoorDJ
namespace Go.Proofs.YtaonccobohiiiaaDoor
open Go.RowKit
set_option maxRecDepth 100000

section
variable {S T : Nat → Nat → Prop} {w : World} {n : Nat}
theorem news_map {α : Type} {f g : α → List AV} {l : List α} {sz : Nat} {v : Value} (hg : ∀ a, (g a).length = sz) (hc : ∀ (a : α) (j : Nat) (c' : AV), (g a)[j]? = some c' → ∃ c, (f a)[j]? = some c ∧ ∀ u, RV S w u c → RV T w u c') (hT : ∀ b o, S b o → n ≤ b → T b o)
    (h : RV S w v (.news n sz (l.map f))) : RV T w v (.seq sz (l.map g)) := by
  cases h with
  | news A n k cap sz es hA h =>
    cases h with
    | seq A k cap sz es b o u hn hcap hA2 hz hcc hr =>
      have key : ∀ (i j : Nat) (c' : AV), cellAt (l.map g) i j = some c' → ∃ c, cellAt (l.map f) i j = some c ∧ ∀ u, RV S w u c → RV T w u c' := fun i j c' hcc' => by
        obtain ⟨a, h1, h2⟩ := cell_map hcc'
        obtain ⟨c, h3, h4⟩ := hc a j c' h2
        exact ⟨c, cell_of (by rw [List.getElem?_map, h1]; rfl) h3, h4⟩
      refine .seq A k cap sz _ b o u (by rw [← hn, List.length_map, List.length_map]) hcap hA2 (fun i e he => ?_) (fun i j c' hcc' => ?_) fun i j c' hcc' => ?_
      · rw [List.getElem?_map] at he
        obtain ⟨a, _, rfl⟩ := Option.map_eq_some_iff.1 he
        exact hg a
      · obtain ⟨c, h1, _⟩ := key i j c' hcc'
        obtain ⟨k1, k2, k3⟩ := hcc i j c h1
        refine ⟨hT _ _ k1 ?_, k2, k3⟩
        have hil : 0 < k := by
          obtain ⟨a, h1, _⟩ := cell_map hcc'
          have := (List.getElem?_eq_some_iff.1 h1).1
          rw [← hn, List.length_map]
          omega
        exact hA _ (hA2 hil)
      · obtain ⟨c, h1, h2⟩ := key i j c' hcc'
        exact h2 _ (hr i j c h1)
theorem far_ops {l : List OpD} {v : Value} (hT : ∀ b o, S b o → n ≤ b → T b o) (h : RV S w v (.news n 2 (l.map opAV))) : RV T w v (opsAV l) :=
  news_map (fun _ => rfl) (fun a j c' hc => by
    match j, hc with
    | 0, hc => cases hc; exact ⟨_, rfl, fun u hu => hu.flat rfl⟩
    | 1, hc => cases hc; exact ⟨_, rfl, fun u hu => hu.flat rfl⟩) hT h
theorem far_vars {l : List VarD} {v : Value} (hT : ∀ b o, S b o → n ≤ b → T b o) (h : RV S w v (.news n 2 (l.map varAV))) : RV T w v (varsAV l) :=
  news_map (fun _ => rfl) (fun a j c' hc => by
    match j, hc with
    | 0, hc => cases hc; exact ⟨_, rfl, fun u hu => hu.flat rfl⟩
    | 1, hc => cases hc; exact ⟨_, rfl, fun u hu => hu.flat rfl⟩) hT h
theorem far_acts {l : List ActD} {v : Value} (hT : ∀ b o, S b o → n ≤ b → T b o) (h : RV S w v (.news n 4 (l.map (actN n)))) : RV T w v (actsAV l) :=
  news_map (fun _ => rfl) (fun a j c' hc => by
    match j, hc with
    | 0, hc => cases hc; exact ⟨_, rfl, fun u hu => hu.flat rfl⟩
    | 1, hc => cases hc; exact ⟨_, rfl, fun u hu => hu.flat rfl⟩
    | 2, hc => cases hc; exact ⟨_, rfl, fun u hu => hu.flat rfl⟩
    | 3, hc => cases hc; exact ⟨_, rfl, fun u hu => far_ops hT hu⟩) hT h
theorem far_sts {l : List StD} {v : Value} (hT : ∀ b o, S b o → n ≤ b → T b o) (h : RV S w v (.news n 6 (l.map (stN n)))) : RV T w v (stsAV l) :=
  news_map (fun _ => rfl) (fun a j c' hc => by
    match j, hc with
    | 0, hc => cases hc; exact ⟨_, rfl, fun u hu => hu.flat rfl⟩
    | 1, hc => cases hc; exact ⟨_, rfl, fun u hu => hu.flat rfl⟩
    | 2, hc => cases hc; exact ⟨_, rfl, fun u hu => hu.flat rfl⟩
    | 3, hc => cases hc; exact ⟨_, rfl, fun u hu => hu.flat rfl⟩
    | 4, hc => cases hc; exact ⟨_, rfl, fun u hu => far_acts hT hu⟩
    | 5, hc => cases hc; exact ⟨_, rfl, fun u hu => far_acts hT hu⟩) hT h
theorem far_trs {l : List TrD} {v : Value} (hT : ∀ b o, S b o → n ≤ b → T b o) (h : RV S w v (.news n 5 (l.map (trN n)))) : RV T w v (trsAV l) :=
  news_map (fun _ => rfl) (fun a j c' hc => by
    match j, hc with
    | 0, hc => cases hc; exact ⟨_, rfl, fun u hu => hu.flat rfl⟩
    | 1, hc => cases hc; exact ⟨_, rfl, fun u hu => hu.flat rfl⟩
    | 2, hc => cases hc; exact ⟨_, rfl, fun u hu => far_ops hT hu⟩
    | 3, hc => cases hc; exact ⟨_, rfl, fun u hu => far_acts hT hu⟩
    | 4, hc => cases hc; exact ⟨_, rfl, fun u hu => hu.flat rfl⟩) hT h
/-- The copy leans on what lies behind the n-th block. -/
theorem far_ch {c : ChD} {v : Value} (hT : ∀ b o, S b o → n ≤ b → T b o) (h : RV S w v (.agg (chN n c))) : ∃ u2 u3 u4, v = .agg #[.string ⟨c.name.toArray⟩, .int .i64 c.initial, u2, u3, u4] ∧ (u2.oneCell' = true ∧ u3.oneCell' = true ∧ u4.oneCell' = true) ∧ RV T w v (.agg (chAV c)) := by
  cases h with
  | agg vs cs hl h1 hc =>
    match vs, hl with
    | [u0, u1, u2, u3, u4], _ =>
      have k0 := hc 0 u0 _ rfl rfl
      have k1 := hc 1 u1 _ rfl rfl
      have k2 := far_vars hT (hc 2 u2 _ rfl rfl)
      have k3 := far_sts hT (hc 3 u3 _ rfl rfl)
      have k4 := far_trs hT (hc 4 u4 _ rfl rfl)
      cases k0
      cases k1
      refine ⟨u2, u3, u4, rfl, ⟨h1 _ (by simp), h1 _ (by simp), h1 _ (by simp)⟩, .agg _ _ rfl h1 fun i u k hu hk => ?_⟩
      match i, hu, hk with
      | 0, hu, hk => cases hu; cases hk; exact .lit _
      | 1, hu, hk => cases hu; cases hk; exact .lit _
      | 2, hu, hk => cases hu; cases hk; exact k2
      | 3, hu, hk => cases hu; cases hk; exact k3
      | 4, hu, hk => cases hu; cases hk; exact k4
end

/-! Memory that is spoilt -/
/-- A row of elements in a block between two marks. -/
def RowAt (lo hi : Nat) (w : World) (v : Value) (n sz : Nat) (t : TypeId) : Prop :=
  ∃ A cap, v = .slice A n cap ∧ (0 < n → ∃ g cur, A = some ⟨g, 0, none⟩ ∧ lo ≤ g ∧ g < hi ∧ w.heap[g]? = some (.cells cur t (0, 0)) ∧ n * sz ≤ cur.size)
theorem side_at {base : Nat} {w : World} {S : Nat → Nat → Prop} {p : Side} (h : SideOk base w S p) : RowAt base w.heap.size w p.v p.es.length p.sz p.e := by
  obtain ⟨xs, h1, _⟩ := h.own
  rcases h1.2 with ⟨e, hn⟩ | ⟨g, cap, cur, e, hb, hg, hcap, _, hcs, _⟩
  · exact ⟨none, 0, by rw [e, hn], fun hh => by omega⟩
  · exact ⟨_, cap, e, fun _ => ⟨g, cur, rfl, hb, (Array.getElem?_eq_some_iff.1 hg).1, hg, by rw [hcs]; exact Nat.mul_le_mul_right _ hcap⟩⟩
theorem RowAt.below {lo hi : Nat} {w w' : World} {v : Value} {n sz : Nat} {t : TypeId} (h : RowAt lo hi w v n sz t) (hb : Below hi w w') : RowAt lo hi w' v n sz t := by
  obtain ⟨A, cap, e, hh⟩ := h
  refine ⟨A, cap, e, fun hn => ?_⟩
  obtain ⟨g, cur, e1, e2, e3, e4, e5⟩ := hh hn
  exact ⟨g, cur, e1, e2, e3, (hb.block g e3).trans e4, e5⟩
/-- What stays of memory that is spoilt: where the blocks lie, and the slices in them. -/
structure Kept (lo hi : Nat) (w0 w : World) : Prop where
  bel : Below lo w0 w
  size : w.heap.size = w0.heap.size
  far : ∀ b, hi ≤ b → w.heap[b]? = w0.heap[b]?
  cells : ∀ (b : Nat) (ca : Array Value) (t : TypeId), w0.heap[b]? = some (.cells ca t (0, 0)) → ∃ ca', w.heap[b]? = some (.cells ca' t (0, 0)) ∧ ca'.size = ca.size ∧ (t = 32 → ∀ i, ca'[i * 6 + 4]? = ca[i * 6 + 4]?) ∧ (t = 37 → ∀ i, ca'[i * 5 + 2]? = ca[i * 5 + 2]?)
theorem Kept.refl (lo hi : Nat) (w : World) : Kept lo hi w w := ⟨Below.refl _ _, rfl, fun _ _ => rfl, fun _ ca _ h => ⟨ca, h, rfl, fun _ _ => rfl, fun _ _ => rfl⟩⟩
theorem Kept.store {lo hi : Nat} {w0 w : World} (h : Kept lo hi w0 w) {b o : Nat} {ca : Array Value} {t : TypeId} (hb : w0.heap[b]? = some (.cells ca t (0, 0))) (hlo : lo ≤ b) (hhi : b < hi) (h6 : t = 32 → o % 6 ≠ 4) (h5 : t = 37 → o % 5 ≠ 2) (v : Value) : Kept lo hi w0 (w.setCell ⟨b, o, none⟩ v) := by
  have hoth : ∀ k, k ≠ b → (w.setCell ⟨b, o, none⟩ v).heap[k]? = w.heap[k]? := fun k hk => Below.heap_setCell w ⟨b, o, none⟩ v k hk
  refine ⟨h.bel.setCell (p := ⟨b, o, none⟩) hlo v, by rw [← h.size]; simp [World.setCell], fun k hk => (hoth k (by omega)).trans (h.far k hk), fun k ca2 t2 hk => ?_⟩
  obtain ⟨ca', k1, k2, k3, k4⟩ := h.cells k ca2 t2 hk
  by_cases e : k = b
  · subst e
    rw [hb] at hk
    cases hk
    refine ⟨ca'.setIfInBounds o v, ?_, by rw [Array.size_setIfInBounds, k2], fun ht i => ?_, fun ht i => ?_⟩
    · simp [World.setCell, Array.getElem?_modify, k1]
    · rw [Array.getElem?_setIfInBounds_ne (fun e => h6 ht (by omega))]
      exact k3 ht i
    · rw [Array.getElem?_setIfInBounds_ne (fun e => h5 ht (by omega))]
      exact k4 ht i
  · exact ⟨ca', (hoth k e).trans k1, k2, k3, k4⟩
/-- A cell of such a row. -/
theorem Kept.cell {lo hi : Nat} {w0 w : World} (h : Kept lo hi w0 w) {g : Nat} {cur : Array Value} {t : TypeId} (hg : w0.heap[g]? = some (.cells cur t (0, 0))) {o : Nat} (ho : o < cur.size) : ∃ u, w.cell? ⟨g, o, none⟩ = some u ∧ w.frozen? ⟨g, o, none⟩ = false := by
  obtain ⟨ca', k1, k2, _⟩ := h.cells g cur t hg
  refine ⟨ca'[o]'(by omega), ?_, ?_⟩
  · simp only [World.cell?, k1, Option.isSome_none, Bool.false_eq_true, if_false]
    exact Array.getElem?_eq_getElem _
  · simp [World.frozen?, k1]
theorem Kept.whole {lo hi : Nat} {w0 w : World} (h : Kept lo hi w0 w) {b : Nat} {t : TypeId} {cs : Array Value} (hN : Whole w0 b t cs) (hb : hi ≤ b) : Whole w b t cs := (h.far b hb).trans hN
theorem Kept.slotS {lo hi : Nat} {w0 w : World} (h : Kept lo hi w0 w) {g : Nat} {cur : Array Value} (hg : w0.heap[g]? = some (.cells cur 32 (0, 0))) {i : Nat} {V : Value} (hV : cur[i * 6 + 4]? = some V) : w.cell? ⟨g, i * 6 + 4, none⟩ = some V := by
  obtain ⟨ca', k1, _, k3, _⟩ := h.cells g cur _ hg
  simp only [World.cell?, k1, Option.isSome_none, Bool.false_eq_true, if_false]
  exact (k3 rfl i).trans hV
theorem Kept.slotT {lo hi : Nat} {w0 w : World} (h : Kept lo hi w0 w) {g : Nat} {cur : Array Value} (hg : w0.heap[g]? = some (.cells cur 37 (0, 0))) {i : Nat} {V : Value} (hV : cur[i * 5 + 2]? = some V) : w.cell? ⟨g, i * 5 + 2, none⟩ = some V := by
  obtain ⟨ca', k1, _, _, k4⟩ := h.cells g cur _ hg
  simp only [World.cell?, k1, Option.isSome_none, Bool.false_eq_true, if_false]
  exact (k4 rfl i).trans hV
/-- What own made, for those who spoil it. -/
structure Junk (lo hi : Nat) (w : World) (c : ChD) (vV vS vT : Value) : Prop where
  vars : RowAt lo hi w vV c.vars.length 2 41
  sts : RowAt lo hi w vS c.states.length 6 32
  trs : RowAt lo hi w vT c.trans.length 5 37
  inn : ∀ (i : Nat), i < c.states.length → ∃ V g cap cur m, vS = .slice (some ⟨g, 0, none⟩) c.states.length cap ∧ lo ≤ g ∧ g < hi ∧ w.heap[g]? = some (.cells cur 32 (0, 0)) ∧ i * 6 + 6 ≤ cur.size ∧ cur[i * 6 + 4]? = some V ∧ RowAt lo hi w V m 4 35 ∧ m ≤ 4096
  gd : ∀ (i : Nat), i < c.trans.length → ∃ V g cap cur m, vT = .slice (some ⟨g, 0, none⟩) c.trans.length cap ∧ lo ≤ g ∧ g < hi ∧ w.heap[g]? = some (.cells cur 37 (0, 0)) ∧ i * 5 + 5 ≤ cur.size ∧ cur[i * 5 + 2]? = some V ∧ RowAt lo hi w V m 2 39 ∧ m ≤ 9223372036854775807
theorem Junk.below {lo hi : Nat} {w w' : World} {c : ChD} {vV vS vT : Value} (h : Junk lo hi w c vV vS vT) (hb : Below hi w w') : Junk lo hi w' c vV vS vT :=
  ⟨h.vars.below hb, h.sts.below hb, h.trs.below hb, fun i hi => by
    obtain ⟨V, g, cap, cur, m, e1, e2, e3, e4, e5, e6, e7, e8⟩ := h.inn i hi
    exact ⟨V, g, cap, cur, m, e1, e2, e3, (hb.block g e3).trans e4, e5, e6, e7.below hb, e8⟩, fun i hi => by
    obtain ⟨V, g, cap, cur, m, e1, e2, e3, e4, e5, e6, e7, e8⟩ := h.gd i hi
    exact ⟨V, g, cap, cur, m, e1, e2, e3, (hb.block g e3).trans e4, e5, e6, e7.below hb, e8⟩⟩
/-- The place of a value in a row that was put aside. -/
theorem side_lit {base : Nat} {w : World} {S : Nat → Nat → Prop} {p : Side} (h : SideOk base w S p) {i j : Nat} {V : Value} (hc : cellAt p.es i j = some (.lit V)) (hj : j < p.sz) : ∃ g cap cur, p.v = .slice (some ⟨g, 0, none⟩) p.es.length cap ∧ base ≤ g ∧ g < w.heap.size ∧ w.heap[g]? = some (.cells cur p.e (0, 0)) ∧ i * p.sz + p.sz ≤ cur.size ∧ cur[i * p.sz + j]? = some V := by
  obtain ⟨xs, h1, _, h3⟩ := h.own
  obtain ⟨u, k1, k2⟩ := h3 i j _ hc
  have hil : i < p.es.length := by
    unfold cellAt at hc
    cases hi : p.es[i]? with
    | none => rw [hi] at hc; cases hc
    | some e => exact (List.getElem?_eq_some_iff.1 hi).1
  rcases h1.2 with ⟨e, hn⟩ | ⟨g, cap, cur, e, hb, hg, hcap, _, hcs, htk⟩
  · omega
  · have h4 : (i + 1) * p.sz ≤ p.es.length * p.sz := Nat.mul_le_mul_right _ hil
    have h5 : p.es.length * p.sz ≤ cap * p.sz := Nat.mul_le_mul_right _ hcap
    rw [Nat.add_mul, Nat.one_mul] at h4
    refine ⟨g, cap, cur, e, hb, (Array.getElem?_eq_some_iff.1 hg).1, hg, by omega, ?_⟩
    rw [← htk, List.getElem?_take_of_lt (by omega), Array.getElem?_toList] at k1
    rw [k1]
    cases k2
    rfl
theorem Mine.junk {base : Nat} {w : World} {S : Nat → Nat → Prop} {c : ChD} {vV vS vT : Value} {Vs Ws : List Value} (h : Mine base w S c vV vS vT Vs Ws) (ho : OwnC c) : Junk base w.heap.size w c vV vS vT := by
  have z1 : (List.zipWith stO c.states Vs).length = c.states.length := by simp [h.lV]
  have z2 : (List.zipWith trO c.trans Ws).length = c.trans.length := by simp [h.lW]
  refine ⟨?_, ?_, ?_, fun i hi => ?_, fun i hi => ?_⟩
  · have := side_at h.vars
    rwa [show (c.vars.map varAV).length = c.vars.length from List.length_map ..] at this
  · have := side_at h.sts
    rwa [z1] at this
  · have := side_at h.trs
    rwa [z2] at this
  · have hs : c.states[i]? = some c.states[i] := List.getElem?_eq_getElem hi
    obtain ⟨V, hV, hz⟩ := zip_at (f := stO) hs h.lV
    obtain ⟨V', hV', hz2⟩ := zip_at (f := stSide) hs h.lV
    rw [hV] at hV'
    cases hV'
    obtain ⟨g, cap, cur, e1, e2, e3, e4, e5, e6⟩ := side_lit h.sts (i := i) (j := 4) (V := V) (cell_of hz rfl) (by simp)
    have hside := side_at (h.sides _ (List.mem_append_left _ (List.mem_of_getElem? hz2)))
    refine ⟨V, g, cap, cur, _, by rw [← z1]; exact e1, e2, e3, e4, e5, e6, hside, ?_⟩
    show (List.map _ _).length ≤ _
    rw [List.length_map]
    exact ho.inn _ (List.getElem_mem hi)
  · have hs : c.trans[i]? = some c.trans[i] := List.getElem?_eq_getElem hi
    obtain ⟨V, hV, hz⟩ := zip_at (f := trO) hs h.lW
    obtain ⟨V', hV', hz2⟩ := zip_at (f := trSide) hs h.lW
    rw [hV] at hV'
    cases hV'
    obtain ⟨g, cap, cur, e1, e2, e3, e4, e5, e6⟩ := side_lit h.trs (i := i) (j := 2) (V := V) (cell_of hz rfl) (by simp)
    have hside := side_at (h.sides _ (List.mem_append_right _ (List.mem_of_getElem? hz2)))
    refine ⟨V, g, cap, cur, _, by rw [← z2]; exact e1, e2, e3, e4, e5, e6, hside, ?_⟩
    show (List.map _ _).length ≤ _
    rw [List.length_map]
    exact (ho.guard _ (List.getElem_mem hi)).2
end Go.Proofs.YtaonccobohiiiaaDoor
