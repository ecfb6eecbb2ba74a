/- own: what its memory holds. -/
import Derived.Test.YtaonccobohiiiaaDoorVQ
import Derived.Test.YtaonccobohiiiaaDoorDH
namespace Go.Proofs.YtaonccobohiiiaaDoor
open Go.RowKit
set_option maxRecDepth 100000

/-- What own made, as it lies in memory. -/
structure Mine (base : Nat) (w : World) (S : Nat → Nat → Prop) (c : ChD) (vV vS vT : Value) (Vs Ws : List Value) : Prop where
  lV : Vs.length = c.states.length
  lW : Ws.length = c.trans.length
  vars : SideOk base w S ⟨vV, 41, 2, c.vars.map varAV⟩
  sts : SideOk base w S ⟨vS, 32, 6, List.zipWith stO c.states Vs⟩
  trs : SideOk base w S ⟨vT, 37, 5, List.zipWith trO c.trans Ws⟩
  sides : ∀ p ∈ List.zipWith stSide c.states Vs ++ List.zipWith trSide c.trans Ws, SideOk base w S p
theorem own_mem (env : Env) (c : ChD) (hs : OwnC c) {w : World} {S : Nat → Nat → Prop} {v : Value} (hE : EnvOk env S w) (hv : RV S w v (.agg (chAV c))) :
    Calls Tryd.prog 7 #[v] w fun e w' => ∃ vV vS vT Vs Ws S', e = .returned (.agg #[.string ⟨c.name.toArray⟩, .int .i64 c.initial, vV, vS, vT]) ∧ Below w.heap.size w w' ∧ (∀ b o, S' b o → b < w'.heap.size) ∧ Mine w.heap.size w' S' c vV vS vT Vs Ws := by
  obtain ⟨cd, hcd, hw⟩ := own_walk env c hs
  refine calls_of_bodyP (vs := [v]) Tryd.func7 hcd (by rw [Tryd.ntmps7]; simp) hw (fun e s L h => by cases e <;> first | exact ⟨h, .inl rfl⟩ | exact ⟨h, .inr rfl⟩ | exact h.elim) hE rfl (fun i u k hu hk => ?_) ?_
  · cases i with
    | zero => simp at hu hk; subst hu hk; exact hv
    | succ i => simp at hu
  intro s' L' a' w' m' x' hQ hxw hxS hA hSim
  obtain ⟨Vs, Ws, h1, h2, hL, hres, r1, r2, r3, e1, e2, e3⟩ := hQ
  obtain ⟨u, p1, p2⟩ := resI_ok (fn := Tryd.f7) hSim (show resI Tryd.prog s' Tryd.f7.results.toList _ from hres)
  obtain ⟨us, rfl, hl, _, hc⟩ := p2.agg_
  match us, hl with
  | [u0, u1, u2, u3, u4], _ =>
    have k0 := (hc 0 u0 _ rfl rfl).lit_
    have k1 := (hc 1 u1 _ rfl rfl).lit_
    have k2 := (hc 2 u2 _ rfl rfl).row_.2 rfl _ r1
    have k3 := (hc 3 u3 _ rfl rfl).row_.2 rfl _ r2
    have k4 := (hc 4 u4 _ rfl rfl).row_.2 rfl _ r3
    subst k0 k1 k2 k3 k4
    have q1 := side_row hSim r1 (Nat.succ_ne_zero 1) rfl e1
    have q2 := side_row hSim r2 (Nat.succ_ne_zero 5) rfl e2
    have q3 := side_row hSim r3 (Nat.succ_ne_zero 4) rfl e3
    have q4 := hA.now hSim
    have hbel := hSim.bel
    rw [hxw] at q1 q2 q3 q4 hbel
    rw [hL] at q4
    exact ⟨_, p1, _, _, _, Vs, Ws, m'.S, rfl, hbel, hSim.low, h1, h2, q1, q2, q3, q4⟩
/-- A row that was put aside reads. -/
theorem side_rv {base : Nat} {w : World} {S T : Nat → Nat → Prop} {p : Side} (h : SideOk base w S p) (hT : ∀ b o, b < w.heap.size → T b o) (es : List (List AV)) (hl : es.length = p.es.length) (hz : ∀ (i : Nat) (e : List AV), es[i]? = some e → e.length = p.sz)
    (hc : ∀ (i j : Nat) (c : AV), cellAt es i j = some c → ∃ c', cellAt p.es i j = some c' ∧ ∀ u, RV S w u c' → RV T w u c) : RV T w p.v (.seq p.sz es) := by
  obtain ⟨xs, h1, h2, h3⟩ := h.own
  rcases h1.2 with ⟨e, hn⟩ | ⟨g, cap, cur, e, hb, hg, hcap, hcm, hcs, htk⟩
  · rw [e]
    have : es = [] := List.eq_nil_of_length_eq_zero (by omega)
    subst this
    exact .seq none 0 0 p.sz [] 0 0 (fun _ _ => undef) rfl (Nat.le_refl _) (fun h => by omega) (fun i e he => by simp at he) (fun i j c hcc => by simp [cellAt] at hcc) fun i j c hcc => by simp [cellAt] at hcc
  · rw [e]
    have hglt : g < w.heap.size := (Array.getElem?_eq_some_iff.1 hg).1
    have hob : p.v.ownBlock = some g := by rw [e]; rfl
    have key : ∀ (i j : Nat) (c : AV), cellAt es i j = some c → ∃ u, xs[i * p.sz + j]? = some u ∧ RV T w u c := fun i j c hcc => by
      obtain ⟨c', k1, k2⟩ := hc i j c hcc
      obtain ⟨u, k3, k4⟩ := h3 i j c' k1
      exact ⟨u, k3, k2 u k4⟩
    refine .seq (some ⟨g, 0, none⟩) p.es.length cap p.sz es g 0 (fun i j => xs.getD (i * p.sz + j) undef) hl hcap (fun _ => rfl) hz (fun i j c hcc => ?_) fun i j c hcc => ?_
    · obtain ⟨u, k1, k2⟩ := key i j c hcc
      have hu : xs.getD (i * p.sz + j) undef = u := by simp [List.getD, k1]
      simp only [hu, Nat.zero_add]
      exact ⟨hT _ _ hglt, own_cell h1 hob _ u k1, h2 u (List.mem_of_getElem? k1)⟩
    · obtain ⟨u, k1, k2⟩ := key i j c hcc
      have hu : xs.getD (i * p.sz + j) undef = u := by simp [List.getD, k1]
      simp only [hu]
      exact k2
theorem zip_at {α β γ : Type} {f : α → β → γ} {l : List α} {V : List β} {i : Nat} {a : α} (h : l[i]? = some a) (hl : V.length = l.length) : ∃ v, V[i]? = some v ∧ (List.zipWith f l V)[i]? = some (f a v) := by
  have hi := (List.getElem?_eq_some_iff.1 h).1
  have hi2 : i < V.length := by omega
  refine ⟨V[i], List.getElem?_eq_getElem hi2, ?_⟩
  rw [List.getElem?_zipWith, h, List.getElem?_eq_getElem hi2]
theorem cell_map {α : Type} {f : α → List AV} {l : List α} {i j : Nat} {c : AV} (h : cellAt (l.map f) i j = some c) : ∃ a, l[i]? = some a ∧ (f a)[j]? = some c := by
  unfold cellAt at h
  rw [List.getElem?_map] at h
  cases ha : l[i]? with
  | none => rw [ha] at h; cases h
  | some a => rw [ha] at h; exact ⟨a, rfl, h⟩
theorem cell_of {es : List (List AV)} {i j : Nat} {e : List AV} {c : AV} (h : es[i]? = some e) (hj : e[j]? = some c) : cellAt es i j = some c := by unfold cellAt; rw [h]; exact hj
/-- It reads as the chart that it was made of. -/
theorem Mine.rv {base : Nat} {w : World} {S : Nat → Nat → Prop} {c : ChD} {vV vS vT : Value} {Vs Ws : List Value} (h : Mine base w S c vV vS vT Vs Ws) (hS : ∀ b o, S b o → b < w.heap.size) :
    RV (fun b _ => b < w.heap.size) w (.agg #[.string ⟨c.name.toArray⟩, .int .i64 c.initial, vV, vS, vT]) (.agg (chAV c)) := by
  have up : ∀ {u : Value} {k : AV}, RV S w u k → RV (fun b _ => b < w.heap.size) w u k := fun hh => hh.mono fun b o hb => ⟨hS b o hb, .rfl⟩
  have a1 : RV (fun b _ => b < w.heap.size) w vV (varsAV c.vars) := side_rv h.vars (fun _ _ h => h) (c.vars.map varAV) rfl (fun i e he => by
    rw [List.getElem?_map] at he
    obtain ⟨x, _, rfl⟩ := Option.map_eq_some_iff.1 he
    rfl) fun i j k hk => ⟨k, hk, fun _ => up⟩
  have a2 : RV (fun b _ => b < w.heap.size) w vS (stsAV c.states) := side_rv h.sts (fun _ _ h => h) (c.states.map stAV) (by rw [List.length_map]; simp [h.lV]) (fun i e he => by
    rw [List.getElem?_map] at he
    obtain ⟨x, _, rfl⟩ := Option.map_eq_some_iff.1 he
    rfl) fun i j k hk => by
      obtain ⟨s, hs, hj⟩ := cell_map hk
      obtain ⟨V, hV, hz⟩ := zip_at (f := stO) hs h.lV
      obtain ⟨V', hV', hz2⟩ := zip_at (f := stSide) hs h.lV
      rw [hV] at hV'
      cases hV'
      have hside := h.sides _ (List.mem_append_left _ (List.mem_of_getElem? hz2))
      have hact : RV (fun b _ => b < w.heap.size) w V (actsAV s.inn) := side_rv hside (fun _ _ h => h) (s.inn.map actAV) rfl hside.len fun i j k hk => ⟨k, hk, fun _ => up⟩
      match j, hj with
      | 0, hj => cases hj; exact ⟨_, cell_of hz rfl, fun _ => up⟩
      | 1, hj => cases hj; exact ⟨_, cell_of hz rfl, fun _ => up⟩
      | 2, hj => cases hj; exact ⟨_, cell_of hz rfl, fun _ => up⟩
      | 3, hj => cases hj; exact ⟨_, cell_of hz rfl, fun _ => up⟩
      | 4, hj => cases hj; exact ⟨_, cell_of hz rfl, fun u hu => by rw [show u = V by cases hu; rfl]; exact hact⟩
      | 5, hj => cases hj; exact ⟨_, cell_of hz rfl, fun _ => up⟩
  have a3 : RV (fun b _ => b < w.heap.size) w vT (trsAV c.trans) := side_rv h.trs (fun _ _ h => h) (c.trans.map trAV) (by rw [List.length_map]; simp [h.lW]) (fun i e he => by
    rw [List.getElem?_map] at he
    obtain ⟨x, _, rfl⟩ := Option.map_eq_some_iff.1 he
    rfl) fun i j k hk => by
      obtain ⟨s, hs, hj⟩ := cell_map hk
      obtain ⟨V, hV, hz⟩ := zip_at (f := trO) hs h.lW
      obtain ⟨V', hV', hz2⟩ := zip_at (f := trSide) hs h.lW
      rw [hV] at hV'
      cases hV'
      have hside := h.sides _ (List.mem_append_right _ (List.mem_of_getElem? hz2))
      have hact : RV (fun b _ => b < w.heap.size) w V (opsAV s.guard) := side_rv hside (fun _ _ h => h) (s.guard.map opAV) rfl hside.len fun i j k hk => ⟨k, hk, fun _ => up⟩
      match j, hj with
      | 0, hj => cases hj; exact ⟨_, cell_of hz rfl, fun _ => up⟩
      | 1, hj => cases hj; exact ⟨_, cell_of hz rfl, fun _ => up⟩
      | 2, hj => cases hj; exact ⟨_, cell_of hz rfl, fun u hu => by rw [show u = V by cases hu; rfl]; exact hact⟩
      | 3, hj => cases hj; exact ⟨_, cell_of hz rfl, fun _ => up⟩
      | 4, hj => cases hj; exact ⟨_, cell_of hz rfl, fun _ => up⟩
  have one : ∀ {u : Value} {sz : Nat} {es : List (List AV)}, RV (fun b _ => b < w.heap.size) w u (.seq sz es) → u.oneCell' = true := fun hh => by cases hh; rfl
  refine RV.agg [_, _, vV, vS, vT] _ rfl (fun u hu => ?_) fun i u k hu hk => ?_
  · simp only [List.mem_cons, List.not_mem_nil, or_false] at hu
    rcases hu with rfl | rfl | rfl | rfl | rfl
    · rfl
    · rfl
    · exact one a1
    · exact one a2
    · exact one a3
  · match i, hu, hk with
    | 0, hu, hk => cases hu; cases hk; exact .lit _
    | 1, hu, hk => cases hu; cases hk; exact .lit _
    | 2, hu, hk => cases hu; cases hk; exact a1
    | 3, hu, hk => cases hu; cases hk; exact a2
    | 4, hu, hk => cases hu; cases hk; exact a3
end Go.Proofs.YtaonccobohiiiaaDoor
