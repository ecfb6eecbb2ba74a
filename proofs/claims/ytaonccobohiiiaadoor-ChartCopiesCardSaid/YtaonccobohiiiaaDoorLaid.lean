/- What the rows' lists of variables give: each of the sentinels' variables holds its own sentinel. -/
import Derived.Test.YtaonccobohiiiaaDoorErr
import Derived.Test.YtaonccobohiiiaaDoorRows
import Derived.ProofKit
import Derived.LaidMore
import Derived.OpenShut
import Derived.LaidLaws
import Derived.Stop.Joined
namespace Go.Proofs.YtaonccobohiiiaaDoor
open Go.RowKit Go.ChangeShapes

section
variable {P : Program} {W : World} {nm : String} {ti tp te ts : TypeId} {ms : Array (String × TypeId)} {f : Field}
/-- A list of sentinels: what lies behind each variable, and that no two lie at one place. -/
theorem laid_list (hi : P.underlying ti = some (.interface ms)) (hrow : ∀ u, P.typeName? 3 u = some nm → u = tp)
    (hp : P.underlying tp = some (.pointer te)) (he : P.underlying te = some (.struct #[f])) (hft : f.type = ts) (hfo : f.offset = 0) (hs : P.underlying ts = some .string) (hc : P.cellsOf te = 1) (hcs : P.cellsOf ts = 1) :
    ∀ (l : List (String × List UInt8)) (gs : List Nat) (ps : List MemPlace), DataW.LaidVars P W (l.map fun x => (x.1, .iface nm (.ptr (.agg [.lit (.string x.2)])))) ps →
      l.map (fun x => P.globalNamed x.1) = gs.map some → (∀ g ∈ gs, (P.globals[g]?).map (·.type) = some ti) →
      (∀ b off, MemPlace.cell b off ∈ ps → (∃ c t, W.heap[b]? = some (.cells c t (0, 0))) ∧ ∀ u v, W.cell? ⟨b, off, none⟩ = some (.iface u v) → Value.okWide P W .any 0 u v) →
      ∃ adl : List Addr, adl.length = gs.length ∧ (∀ (i : Nat) (g : Nat) (a : Addr), gs[i]? = some g → adl[i]? = some a → W.cell? ⟨g, 0, none⟩ = some (.iface tp (.pointer (some a))) ∧ ∃ ca ta, W.heap[a.block]? = some (.cells ca ta (0, 0))) ∧
        (adl.map fun a => MemPlace.cell a.block a.off).Sublist ps
  | [], gs, ps, _, hg, _, _ => by
    obtain rfl : gs = [] := by cases gs <;> simp_all
    exact ⟨[], rfl, by simp, by simp⟩
  | (n, text) :: l, gs, ps, hv, hg, ht, hrows => by
    obtain ⟨g, gs, rfl⟩ : ∃ g gs', gs = g :: gs' := by cases gs <;> simp_all
    simp only [List.map_cons, List.cons.injEq] at hg
    obtain ⟨g0, t0, cs0, f0, p0, q0, hg0, ht0, hv0, hd0, hrest, rfl⟩ := hv
    obtain rfl := Option.some.inj (hg.1.symm.trans hg0)
    obtain rfl := Option.some.inj ((ht g (by simp)).symm.trans ht0)
    obtain ⟨l0⟩ := cs0
    have ok0 : ∀ u v, l0 = [.iface u v] → Value.okWide P W .any 0 u v := fun u v e => by
      subst e
      exact (hrows g 0 (by simp [MemPlace.row])).2 u v (by simpa using World.var?_cell hg0 hv0 0)
    obtain ⟨a0, s0, rfl, _, _, _, rfl⟩ := errorString_of_trod hi hrow hp he hft hfo hs hc hcs hd0 ok0
    obtain ⟨adl, h1, h2, h3⟩ := laid_list hi hrow hp he hft hfo hs hc hcs l gs q0 hrest hg.2 (fun g' h => ht g' (by simp [h])) (fun b off h => hrows b off (List.mem_append_right _ h))
    refine ⟨a0 :: adl, by simp [h1], ?_, ?_⟩
    · intro i g' a' hg' ha'
      cases i with
      | zero =>
        simp at hg' ha'
        subst hg' ha'
        exact ⟨by simpa using World.var?_cell hg0 hv0 0, (hrows a0.block a0.off (by simp [MemPlace.row])).1⟩
      | succ i => exact h2 i g' a' (by simpa using hg') (by simpa using ha')
    · simp only [List.map_cons, MemPlace.row]
      exact List.Sublist.trans (List.Sublist.append (by simp : [MemPlace.cell a0.block a0.off].Sublist _) h3) (List.Sublist.append (List.sublist_append_right _ _) (List.Sublist.refl _))
end

theorem Tryd.row160 : ∀ u, Tryd.prog.typeName? 3 u = some "*errors.errorString" → u = 143 :=
  fun u hu => typeName_ptr_named (nm := "errors.errorString") (by kernel_rfl) (by kernel_rfl) (by decide) u hu

section
open Go.WideShapes
variable {H : Type} {enc : TypeId × Value → H} {P : Program}
theorem trodAll_kept (hl : laidOutB P = true) {W W' : World} (hb : Below W.heap.size W W') : ∀ (ts : List TypeId) (vs : List Value) (ds : List (DataW H)) (ps : List MemPlace),
    (∀ t ∈ ts, P.readableRec t = true ∧ t < P.types.size) → (∀ x ∈ ps, x.block < W.heap.size) → DataW.TrodAll enc P W 0 (fun _ => true) true ts vs ds ps → DataW.TrodAll enc P W' 0 (fun b => decide (b < W.heap.size)) true ts vs ds ps
  | [], [], [], _, _, _, h => h
  | t :: ts, v :: vs, d :: ds, ps, ht, hp, h => by
    obtain ⟨p, q, h1, h2, rfl⟩ := h
    have r := ht t (by simp)
    exact ⟨p, q, Below.trod hl r.1 r.2 h1 hb (fun x hx => hp x (List.mem_append_left _ hx)), trodAll_kept hl hb ts vs ds q (fun t' h' => ht t' (by simp [h'])) (fun x hx => hp x (List.mem_append_right _ hx)) h2, rfl⟩
  | [], _ :: _, _, _, _, _, h => by cases h
  | [], [], _ :: _, _, _, _, h => by cases h
  | _ :: _, [], _, _, _, _, h => by cases h
  | _ :: _, _ :: _, [], _, _, _, h => by cases h

/-- A law that returned true and left all old blocks as they were meets its row. -/
theorem law_post (hl : laidOutB P = true) {f : Func} {s : ChangeSpec} {tb : TypeId} {W W' : World} {args : Array Value} {ds gs : List (DataW H)} {before : List MemPlace}
    (hpar : ∀ t ∈ f.params.toList, P.readableRec t = true ∧ t < P.types.size) (hrt : f.resultTypes = #[tb]) (htb : P.underlying tb = some .bool)
    (hW : DataW.Whole enc P f.params.toList s.vars false W args.toList ds gs before) (hv : s.vars = [])
    (hs : gs = [] → s.fn H (ds ++ gs) = { results := [.lit (.bool true)], args := ds }) (hb : Below W.heap.size W W') : s.post enc P f false true false false W args (.bool true) W' := by
  have hlt : ∀ p ∈ before, p.block < W.heap.size := fun p hp => hW.lt p hp
  have hW' := hW
  obtain ⟨p, q, hA, hV, rfl, _, _⟩ := hW
  rw [hv] at hV
  obtain ⟨rfl, rfl⟩ := trodVars_none hV
  have hs := hs rfl
  rw [List.append_nil] at hlt
  refine ⟨ds, [], p ++ [], [], p, [], hW', ?_, ?_, ?_, ?_, fun h => by cases h⟩
  · rw [hs, hrt]
    exact trodAll_mk1 (shut_bool htb true)
  · rw [hs]
    exact trodAll_kept hl hb _ _ _ _ hpar hlt hA
  · rw [hs, hv]
    rfl
  · exact World.keptBut_mono (fun x hx => ⟨hx, .inr (.inl (by simpa using hx))⟩) (hb.frame (· ∈ p ++ []))
end

section
open Go.WideShapes
variable {H : Type} {enc : TypeId × Value → H} {P : Program} {w : World} {base : Nat} {spare : Nat → Bool} {held : Bool}
/-- An array of two ints by value. -/
theorem open_pair {r : Reach} {b0 : Nat} {t e : TypeId} {v : Value} {d : DataW H} {p : List MemPlace} (ht : P.underlying t = some (.array 2 e)) (he : P.underlying e = some (.int .i64)) (hc : P.cellsOf e = 1) (hC : P.cellsOf t = 2)
    (hv : Value.okWide P w r b0 t v) (h : DataW.Trod enc P w base spare held t v d p) : ∃ a0 a1, v = .agg #[.int .i64 a0, .int .i64 a1] := by
  simp only [Value.okWide, ht] at hv
  obtain ⟨cs, rfl, hsz, _⟩ := hv
  rw [hC] at hsz
  obtain ⟨l⟩ := cs
  match l, hsz with
  | [c0, c1], _ =>
    obtain ⟨fuel, hf⟩ := h
    obtain ⟨xs, m, _, _, _, hn, hg⟩ := DataW.trod_array ht hf
    have g0 := hg 0 (by decide)
    have g1 := hg 1 (by decide)
    match xs, hn with
    | [y0, y1], _ =>
      simp only [hc, Value.cells] at g0 g1
      obtain ⟨a0, e0, -, -⟩ := DataW.trod_int he (show DataW.trod enc P w base spare held m e [c0] = some y0 from g0)
      obtain ⟨a1, e1, -, -⟩ := DataW.trod_int he (show DataW.trod enc P w base spare held m e [c1] = some y1 from g1)
      simp only [List.cons.injEq, and_true] at e0 e1
      subst e0 e1
      exact ⟨a0, a1, rfl⟩
end

end Go.Proofs.YtaonccobohiiiaaDoor
