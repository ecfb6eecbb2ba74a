/- A chart that came in: how long its guards and codes are. -/
import Derived.Test.YtaonccobohiiiaaDoorHO
set_option linter.unusedSimpArgs false
namespace Go.Proofs.YtaonccobohiiiaaDoor
open Go.RowKit Go.ChangeShapes Go.WideShapes Go.ChangeAt Go.Deep
set_option maxRecDepth 100000

/-- What something weighs finds room. -/
def WB {H : Type} (P : Program) (t : TypeId) (d : DataW H) : Prop := ∀ z ∈ DataW.weights P t d, z ≤ reachBytes
section
variable {H : Type} {enc : TypeId × Value → H} {P : Program} {w : World} {base : Nat} {spare : Nat → Bool} {held : Bool}
theorem wAll_mem {e : TypeId} {d : DataW H} : ∀ {l : List (DataW H)}, d ∈ l → ∀ z ∈ DataW.weights P e d, z ∈ DataW.weightsAll P e l
  | a :: r, h, z, hz => by
    unfold DataW.weightsAll
    rcases List.mem_cons.1 h with rfl | h
    · exact List.mem_append_left _ hz
    · exact List.mem_append_right _ (wAll_mem h z hz)
theorem WB.elem {t e : TypeId} {es rs : List (DataW H)} (ht : P.underlying t = some (.slice e)) (h : WB P t (.slice es rs)) {d : DataW H} (hd : d ∈ es) : WB P e d := fun z hz => by
  refine h z ?_
  unfold DataW.weights
  rw [ht]
  exact List.mem_cons_of_mem _ (List.mem_append_left _ (wAll_mem hd z hz))
theorem WB.size {t e : TypeId} {es rs : List (DataW H)} (ht : P.underlying t = some (.slice e)) (h : WB P t (.slice es rs)) : es.length * P.bytesOf e ≤ reachBytes := by
  refine Nat.le_trans ?_ (h ((es.length + rs.length) * P.bytesOf e) ?_)
  · exact Nat.mul_le_mul_right _ (Nat.le_add_right ..)
  · unfold DataW.weights
    rw [ht]
    exact List.mem_cons_self ..
theorem wEach_mem : ∀ {ts : List TypeId} {l : List (DataW H)} {i : Nat} {t : TypeId} {d : DataW H}, ts[i]? = some t → l[i]? = some d → ∀ z ∈ DataW.weights P t d, z ∈ DataW.weightsEach P ts l
  | t :: ts, d :: l, 0, _, _, rfl, rfl, z, hz => by unfold DataW.weightsEach; exact List.mem_append_left _ hz
  | t :: ts, d :: l, i + 1, _, _, h1, h2, z, hz => by
    unfold DataW.weightsEach
    exact List.mem_append_right _ (wEach_mem (i := i) (by simpa using h1) (by simpa using h2) z hz)
  | [], _, i, _, _, h1, _, z, hz => by simp at h1
  | _ :: _, [], i, _, _, _, h2, z, hz => by simp at h2
theorem WB.part {t : TypeId} {fs : Array Field} {ps : List (DataW H)} (ht : P.underlying t = some (.struct fs)) (h : WB P t (.agg ps)) {i : Nat} {f : Field} {d : DataW H} (hf : fs[i]? = some f) (hd : ps[i]? = some d) : WB P f.type d := fun z hz => by
  refine h z ?_
  unfold DataW.weights
  rw [ht]
  refine wEach_mem (i := i) ?_ hd z hz
  rw [List.getElem?_map, Array.getElem?_toList, hf]
  rfl
theorem open_listW {α : Type} {t e : TypeId} {size fuel : Nat} {R : List Value → α → Prop} {cs : List Value} {x : DataW H × List MemPlace} (ht : P.underlying t = some (.slice e)) (hC : P.cellsOf e = size) (hpos : 0 < size)
    (hR : ∀ (m : Nat) (cs : List Value) (y : DataW H × List MemPlace), DataW.trod enc P w base spare held m e cs = some y → WB P e y.1 → ∃ a, R cs a) (hw : WB P t x.1)
    (h : DataW.trod enc P w base spare held fuel t cs = some x) : ∃ v l, cs = [v] ∧ ListAt w w.heap.size size R v l := by
  rcases open_slice ht h with ⟨rfl, _⟩ | ⟨a, len, cap, m, n, D, Pl, rfl, hb, hl, hm, hmm, rfl, hx⟩
  · exact ⟨_, [], rfl, none, 0, [], rfl, Nat.le_refl _, Nat.zero_le _, Reads.empty _ _ _ _, by simp, fun i hi => by simp at hi⟩
  have hlm : len ≤ m := by rw [hmm]; split <;> omega
  rw [hC] at hx
  have hch : ∀ i, ∃ cs' : List Value, i < len → w.cells? base (a.add (i * size)) size = some cs' ∧ DataW.trod enc P w base spare held n e cs' = some (D i, Pl i) := fun i => by
    by_cases hi : i < len
    · obtain ⟨cs', h1, h2⟩ := hx i (by omega)
      exact ⟨cs', fun _ => ⟨h1, h2⟩⟩
    · exact ⟨[], fun h => absurd h hi⟩
  let f : Nat → List Value := fun i => (hch i).choose
  have hf : ∀ i, i < len → w.cells? base (a.add (i * size)) size = some (f i) ∧ DataW.trod enc P w base spare held n e (f i) = some (D i, Pl i) := fun i hi => (hch i).choose_spec hi
  have hfl : ∀ i, i < len → (f i).length = size := fun i hi => (World.cells?_some (hf i hi).1).2.1
  obtain ⟨l, hll, hl2⟩ := list_of (n := len) (p := fun i a => R (f i) a) fun i hi => hR _ _ _ (hf i hi).2 (WB.elem ht hw (List.mem_map.2 ⟨i, List.mem_range.2 hi, rfl⟩))
  refine ⟨_, l, rfl, some a, cap, (List.range len).flatMap f, by rw [hll], by omega, by omega, ⟨by rw [hll, flat_len f size len hfl], fun hn => ?_⟩, by rw [hll, flat_len f size len hfl], fun i hi => ?_⟩
  · rw [hll] at hn
    have h0 := World.cells?_some (hf 0 hn).1
    have hc0 := h0.2.2 0 hpos
    have hsp : a.spot = none := by
      rw [Nat.zero_mul] at hc0
      have : (f 0)[0]? = some ((f 0)[0]'(by rw [hfl 0 hn]; exact hpos)) := List.getElem?_eq_getElem _
      rw [this] at hc0
      have e : (a.add 0).add 0 = a := rfl
      rw [e] at hc0
      unfold World.cell? at hc0
      cases hs : a.spot with
      | none => rfl
      | some s =>
        rw [hs] at hc0
        split at hc0 <;> simp at hc0
    obtain ⟨b, off, sp⟩ := a
    simp only at hsp
    subst hsp
    have hcell : ∀ j u, ((List.range len).flatMap f)[j]? = some u → w.cell? ⟨b, off + j, none⟩ = some u := by
      intro j u hu
      have hj : j < len * size := by
        rcases Nat.lt_or_ge j (len * size) with h | h
        · exact h
        · rw [List.getElem?_eq_none (by rw [flat_len f size len hfl]; exact h)] at hu
          cases hu
      have hq : j / size < len := Nat.div_lt_of_lt_mul (by rw [Nat.mul_comm]; exact hj)
      have hr : j % size < size := Nat.mod_lt _ hpos
      have hpart := flat_part f size len hfl (j / size) hq
      have e : j = j / size * size + j % size := by rw [Nat.mul_comm]; exact (Nat.div_add_mod j size).symm
      have hget : (f (j / size))[j % size]? = some u := by
        rw [← hpart, List.getElem?_take, if_pos hr, List.getElem?_drop, ← e]
        exact hu
      have := (World.cells?_some (hf _ hq).1).2.2 (j % size) hr
      rw [hget, add_plain, add_plain, Nat.add_assoc, ← e] at this
      exact this
    refine ⟨b, off, rfl, ?_, hcell⟩
    have hx0 : ((List.range len).flatMap f)[0]? = some (((List.range len).flatMap f)[0]'(by rw [flat_len f size len hfl]; exact Nat.mul_pos hn hpos)) := List.getElem?_eq_getElem _
    exact World.block_lt_of_cell? w ⟨b, off + 0, none⟩ (hcell 0 _ hx0)
  · rw [flat_part f size len hfl i (by omega)]
    exact hl2 i hi
end
section
variable {H : Type} {enc : TypeId × Value → H} {P : Program} {w : World} {base : Nat} {spare : Nat → Bool} {held : Bool}
theorem open_rowsW {α : Type} {t e : TypeId} {size fuel : Nat} {cs : List Value} {x : DataW H × List MemPlace} (en : α → List AV) (few : α → Prop) (hen : ∀ a, (en a).length = size) (ht : P.underlying t = some (.slice e)) (hC : P.cellsOf e = size) (hpos : 0 < size)
    (hR : ∀ (m : Nat) (cs : List Value) (y : DataW H × List MemPlace), DataW.trod enc P w base spare held m e cs = some y → WB P e y.1 → ∃ a, RE w en few cs a) (hw : WB P t x.1)
    (h : DataW.trod enc P w base spare held fuel t cs = some x) : ∃ (v : Value) (l : List α), cs = [v] ∧ (v.oneCell' = true ∧ RV (fun b _ => b < w.heap.size) w v (.seq size (l.map en))) ∧ (l.length ≤ maxLen ∧ l.length * P.bytesOf e ≤ reachBytes) ∧ ∀ a ∈ l, few a := by
  obtain ⟨v, l, e1, hl⟩ := open_listW (R := RE w en few) ht hC hpos hR hw h
  have hrv := list_rv en hen hl fun cs a _ hr j u c hu hc => hr.1.at_.2 j u c hu hc
  obtain ⟨A, c, xs, rfl, _, h2, _, hrow⟩ := hl
  refine ⟨_, l, e1, ⟨rfl, hrv⟩, ⟨h2, ?_⟩, fun a ha => ?_⟩
  · rcases DataW.trod_slice ht h with ⟨e2, _⟩ | ⟨a, len, cap, elems, rest, n, _, e2, e3, _, _, _, hlen, _⟩
    · rw [e1] at e2
      have e4 : l.length = 0 := by injection e2 with q1 _; injection q1
      rw [e4, Nat.zero_mul]
      exact Nat.zero_le _
    · rw [e1] at e2
      have e4 : l.length = len := by injection e2 with q1 _; injection q1
      rw [e3] at hw
      have := hw.size ht
      rw [List.length_map, hlen] at this
      rw [e4]
      exact this
  · obtain ⟨i, hi, rfl⟩ := List.getElem_of_mem ha
    exact (hrow.2 i hi).2
end


theorem by_op : Tryd.prog.bytesOf 39 = 16 := by kernel_rfl
def fewW_act (x : ActD) : Prop := few_act x ∧ x.code.length * 16 ≤ reachBytes
def fewW_st (x : StD) : Prop := few_st x ∧ (∀ a ∈ x.inn, fewW_act a) ∧ ∀ a ∈ x.out, fewW_act a
def fewW_tr (x : TrD) : Prop := few_tr x ∧ x.guard.length * 16 ≤ reachBytes ∧ ∀ a ∈ x.acts, fewW_act a
def fewW_ch (x : ChD) : Prop := few_ch x ∧ (∀ s ∈ x.states, fewW_st s) ∧ ∀ t ∈ x.trans, fewW_tr t
section
variable {H : Type} {enc : TypeId × Value → H} {w : World} {base : Nat} {spare : Nat → Bool} {held : Bool}
set_option maxRecDepth 100000 in
theorem open_actW (m : Nat) (cs : List Value) (y : DataW H × List MemPlace) (h : DataW.trod enc Tryd.prog w base spare held m 35 cs = some y) (hw : WB Tryd.prog 35 y.1) : ∃ a : ActD, RE w actAV fewW_act cs a := by
  obtain ⟨xs, n, _, hx, hl, hxl, hg⟩ := DataW.trod_struct Tryd.underlying35 h
  rw [hx] at hw
  have hxk : xs.length = 4 := hxl
  rw [c_act] at hl
  obtain ⟨c0, c1, c2, c3, rfl⟩ := len_4 hl
  obtain ⟨y0, h0⟩ := trodF hxl hg 0 _ rfl 3 0 1 rfl rfl c_int
  obtain ⟨x0, e0, -, -⟩ := DataW.trod_int Tryd.underlying3 (show DataW.trod enc Tryd.prog w base spare held n 3 [c0] = some y0 from h0)
  cases e0
  obtain ⟨y1, h1⟩ := trodF hxl hg 1 _ rfl 3 1 1 rfl rfl c_int
  obtain ⟨x1, e1, -, -⟩ := DataW.trod_int Tryd.underlying3 (show DataW.trod enc Tryd.prog w base spare held n 3 [c1] = some y1 from h1)
  cases e1
  obtain ⟨y2, h2⟩ := trodF hxl hg 2 _ rfl 9 2 1 rfl rfl c_string
  obtain ⟨x2, e2, -, s2⟩ := DataW.trod_string Tryd.underlying9 (show DataW.trod enc Tryd.prog w base spare held n 9 [c2] = some y2 from h2)
  cases e2
  obtain ⟨⟨t2⟩⟩ := x2
  obtain ⟨y3, hy3⟩ : ∃ z, xs[3]? = some z := ⟨xs[3]'(by omega), List.getElem?_eq_getElem _⟩
  have h3 : DataW.trod enc Tryd.prog w base spare held n 33 [c3] = some y3 := by
    have := hg 3 _ rfl
    exact Eq.trans (show DataW.trod enc Tryd.prog w base spare held n 33 [c3] = xs[3]? from this) hy3
  have hw3 : WB Tryd.prog 33 y3.1 := WB.part (i := 3) Tryd.underlying35 hw rfl (by rw [List.getElem?_map, hy3]; rfl)
  obtain ⟨x3, l3, e3, r3, ⟨n3, k3⟩, p3⟩ := open_rowsW (size := 2) opAV few_op (fun _ => rfl) Tryd.underlying33 c_op (by decide) (fun m cs y h _ => open_op m cs y h) hw3 h3
  cases e3
  rw [by_op] at k3
  exact ⟨⟨x0, x1, t2, l3⟩, ⟨⟨rfl, .lit _⟩, ⟨rfl, .lit _⟩, ⟨rfl, .lit _⟩, r3, trivial⟩, ⟨(by simpa [ByteArray.size] using s2), ⟨n3, p3⟩⟩, k3⟩
set_option maxRecDepth 100000 in
theorem open_stW (m : Nat) (cs : List Value) (y : DataW H × List MemPlace) (h : DataW.trod enc Tryd.prog w base spare held m 32 cs = some y) (hw : WB Tryd.prog 32 y.1) : ∃ a : StD, RE w stAV fewW_st cs a := by
  obtain ⟨xs, n, _, hx, hl, hxl, hg⟩ := DataW.trod_struct Tryd.underlying32 h
  rw [hx] at hw
  have hxk : xs.length = 6 := hxl
  rw [c_st] at hl
  obtain ⟨c0, c1, c2, c3, c4, c5, rfl⟩ := len_6 hl
  obtain ⟨y0, h0⟩ := trodF hxl hg 0 _ rfl 9 0 1 rfl rfl c_string
  obtain ⟨x0, e0, -, s0⟩ := DataW.trod_string Tryd.underlying9 (show DataW.trod enc Tryd.prog w base spare held n 9 [c0] = some y0 from h0)
  cases e0
  obtain ⟨⟨t0⟩⟩ := x0
  obtain ⟨y1, h1⟩ := trodF hxl hg 1 _ rfl 3 1 1 rfl rfl c_int
  obtain ⟨x1, e1, -, -⟩ := DataW.trod_int Tryd.underlying3 (show DataW.trod enc Tryd.prog w base spare held n 3 [c1] = some y1 from h1)
  cases e1
  obtain ⟨y2, h2⟩ := trodF hxl hg 2 _ rfl 3 2 1 rfl rfl c_int
  obtain ⟨x2, e2, -, -⟩ := DataW.trod_int Tryd.underlying3 (show DataW.trod enc Tryd.prog w base spare held n 3 [c2] = some y2 from h2)
  cases e2
  obtain ⟨y3, h3⟩ := trodF hxl hg 3 _ rfl 3 3 1 rfl rfl c_int
  obtain ⟨x3, e3, -, -⟩ := DataW.trod_int Tryd.underlying3 (show DataW.trod enc Tryd.prog w base spare held n 3 [c3] = some y3 from h3)
  cases e3
  obtain ⟨y4, hy4⟩ : ∃ z, xs[4]? = some z := ⟨xs[4]'(by omega), List.getElem?_eq_getElem _⟩
  have h4 : DataW.trod enc Tryd.prog w base spare held n 30 [c4] = some y4 := by
    have := hg 4 _ rfl
    exact Eq.trans (show DataW.trod enc Tryd.prog w base spare held n 30 [c4] = xs[4]? from this) hy4
  have hw4 : WB Tryd.prog 30 y4.1 := WB.part (i := 4) Tryd.underlying32 hw rfl (by rw [List.getElem?_map, hy4]; rfl)
  obtain ⟨x4, l4, e4, r4, ⟨n4, k4⟩, p4⟩ := open_rowsW (size := 4) actAV fewW_act (fun _ => rfl) Tryd.underlying30 c_act (by decide) open_actW hw4 h4
  cases e4
  obtain ⟨y5, hy5⟩ : ∃ z, xs[5]? = some z := ⟨xs[5]'(by omega), List.getElem?_eq_getElem _⟩
  have h5 : DataW.trod enc Tryd.prog w base spare held n 30 [c5] = some y5 := by
    have := hg 5 _ rfl
    exact Eq.trans (show DataW.trod enc Tryd.prog w base spare held n 30 [c5] = xs[5]? from this) hy5
  have hw5 : WB Tryd.prog 30 y5.1 := WB.part (i := 5) Tryd.underlying32 hw rfl (by rw [List.getElem?_map, hy5]; rfl)
  obtain ⟨x5, l5, e5, r5, ⟨n5, k5⟩, p5⟩ := open_rowsW (size := 4) actAV fewW_act (fun _ => rfl) Tryd.underlying30 c_act (by decide) open_actW hw5 h5
  cases e5
  exact ⟨⟨t0, x1, x2, x3, l4, l5⟩, ⟨⟨rfl, .lit _⟩, ⟨rfl, .lit _⟩, ⟨rfl, .lit _⟩, ⟨rfl, .lit _⟩, r4, r5, trivial⟩, ⟨(by simpa [ByteArray.size] using s0), ⟨n4, fun a ha => (p4 a ha).1⟩, ⟨n5, fun a ha => (p5 a ha).1⟩⟩, p4, p5⟩
set_option maxRecDepth 100000 in
theorem open_trW (m : Nat) (cs : List Value) (y : DataW H × List MemPlace) (h : DataW.trod enc Tryd.prog w base spare held m 37 cs = some y) (hw : WB Tryd.prog 37 y.1) : ∃ a : TrD, RE w trAV fewW_tr cs a := by
  obtain ⟨xs, n, _, hx, hl, hxl, hg⟩ := DataW.trod_struct Tryd.underlying37 h
  rw [hx] at hw
  have hxk : xs.length = 5 := hxl
  rw [c_tr] at hl
  obtain ⟨c0, c1, c2, c3, c4, rfl⟩ := len_5 hl
  obtain ⟨y0, h0⟩ := trodF hxl hg 0 _ rfl 3 0 1 rfl rfl c_int
  obtain ⟨x0, e0, -, -⟩ := DataW.trod_int Tryd.underlying3 (show DataW.trod enc Tryd.prog w base spare held n 3 [c0] = some y0 from h0)
  cases e0
  obtain ⟨y1, h1⟩ := trodF hxl hg 1 _ rfl 9 1 1 rfl rfl c_string
  obtain ⟨x1, e1, -, s1⟩ := DataW.trod_string Tryd.underlying9 (show DataW.trod enc Tryd.prog w base spare held n 9 [c1] = some y1 from h1)
  cases e1
  obtain ⟨⟨t1⟩⟩ := x1
  obtain ⟨y2, hy2⟩ : ∃ z, xs[2]? = some z := ⟨xs[2]'(by omega), List.getElem?_eq_getElem _⟩
  have h2 : DataW.trod enc Tryd.prog w base spare held n 33 [c2] = some y2 := by
    have := hg 2 _ rfl
    exact Eq.trans (show DataW.trod enc Tryd.prog w base spare held n 33 [c2] = xs[2]? from this) hy2
  have hw2 : WB Tryd.prog 33 y2.1 := WB.part (i := 2) Tryd.underlying37 hw rfl (by rw [List.getElem?_map, hy2]; rfl)
  obtain ⟨x2, l2, e2, r2, ⟨n2, k2⟩, p2⟩ := open_rowsW (size := 2) opAV few_op (fun _ => rfl) Tryd.underlying33 c_op (by decide) (fun m cs y h _ => open_op m cs y h) hw2 h2
  cases e2
  obtain ⟨y3, hy3⟩ : ∃ z, xs[3]? = some z := ⟨xs[3]'(by omega), List.getElem?_eq_getElem _⟩
  have h3 : DataW.trod enc Tryd.prog w base spare held n 30 [c3] = some y3 := by
    have := hg 3 _ rfl
    exact Eq.trans (show DataW.trod enc Tryd.prog w base spare held n 30 [c3] = xs[3]? from this) hy3
  have hw3 : WB Tryd.prog 30 y3.1 := WB.part (i := 3) Tryd.underlying37 hw rfl (by rw [List.getElem?_map, hy3]; rfl)
  obtain ⟨x3, l3, e3, r3, ⟨n3, k3⟩, p3⟩ := open_rowsW (size := 4) actAV fewW_act (fun _ => rfl) Tryd.underlying30 c_act (by decide) open_actW hw3 h3
  cases e3
  obtain ⟨y4, h4⟩ := trodF hxl hg 4 _ rfl 3 4 1 rfl rfl c_int
  obtain ⟨x4, e4, -, -⟩ := DataW.trod_int Tryd.underlying3 (show DataW.trod enc Tryd.prog w base spare held n 3 [c4] = some y4 from h4)
  cases e4
  rw [by_op] at k2
  exact ⟨⟨x0, t1, l2, l3, x4⟩, ⟨⟨rfl, .lit _⟩, ⟨rfl, .lit _⟩, r2, r3, ⟨rfl, .lit _⟩, trivial⟩, ⟨(by simpa [ByteArray.size] using s1), ⟨n2, p2⟩, ⟨n3, fun a ha => (p3 a ha).1⟩⟩, k2, p3⟩
set_option maxRecDepth 100000 in
theorem open_chW (m : Nat) (cs : List Value) (y : DataW H × List MemPlace) (h : DataW.trod enc Tryd.prog w base spare held m 26 cs = some y) (hw : WB Tryd.prog 26 y.1) : ∃ a : ChD, RE w chAV fewW_ch cs a := by
  obtain ⟨xs, n, _, hx, hl, hxl, hg⟩ := DataW.trod_struct Tryd.underlying26 h
  rw [hx] at hw
  have hxk : xs.length = 5 := hxl
  rw [c_ch] at hl
  obtain ⟨c0, c1, c2, c3, c4, rfl⟩ := len_5 hl
  obtain ⟨y0, h0⟩ := trodF hxl hg 0 _ rfl 9 0 1 rfl rfl c_string
  obtain ⟨x0, e0, -, s0⟩ := DataW.trod_string Tryd.underlying9 (show DataW.trod enc Tryd.prog w base spare held n 9 [c0] = some y0 from h0)
  cases e0
  obtain ⟨⟨t0⟩⟩ := x0
  obtain ⟨y1, h1⟩ := trodF hxl hg 1 _ rfl 3 1 1 rfl rfl c_int
  obtain ⟨x1, e1, -, -⟩ := DataW.trod_int Tryd.underlying3 (show DataW.trod enc Tryd.prog w base spare held n 3 [c1] = some y1 from h1)
  cases e1
  obtain ⟨y2, hy2⟩ : ∃ z, xs[2]? = some z := ⟨xs[2]'(by omega), List.getElem?_eq_getElem _⟩
  have h2 : DataW.trod enc Tryd.prog w base spare held n 22 [c2] = some y2 := by
    have := hg 2 _ rfl
    exact Eq.trans (show DataW.trod enc Tryd.prog w base spare held n 22 [c2] = xs[2]? from this) hy2
  have hw2 : WB Tryd.prog 22 y2.1 := WB.part (i := 2) Tryd.underlying26 hw rfl (by rw [List.getElem?_map, hy2]; rfl)
  obtain ⟨x2, l2, e2, r2, ⟨n2, k2⟩, p2⟩ := open_rowsW (size := 2) varAV few_var (fun _ => rfl) Tryd.underlying22 c_var (by decide) (fun m cs y h _ => open_var m cs y h) hw2 h2
  cases e2
  obtain ⟨y3, hy3⟩ : ∃ z, xs[3]? = some z := ⟨xs[3]'(by omega), List.getElem?_eq_getElem _⟩
  have h3 : DataW.trod enc Tryd.prog w base spare held n 23 [c3] = some y3 := by
    have := hg 3 _ rfl
    exact Eq.trans (show DataW.trod enc Tryd.prog w base spare held n 23 [c3] = xs[3]? from this) hy3
  have hw3 : WB Tryd.prog 23 y3.1 := WB.part (i := 3) Tryd.underlying26 hw rfl (by rw [List.getElem?_map, hy3]; rfl)
  obtain ⟨x3, l3, e3, r3, ⟨n3, k3⟩, p3⟩ := open_rowsW (size := 6) stAV fewW_st (fun _ => rfl) Tryd.underlying23 c_st (by decide) open_stW hw3 h3
  cases e3
  obtain ⟨y4, hy4⟩ : ∃ z, xs[4]? = some z := ⟨xs[4]'(by omega), List.getElem?_eq_getElem _⟩
  have h4 : DataW.trod enc Tryd.prog w base spare held n 24 [c4] = some y4 := by
    have := hg 4 _ rfl
    exact Eq.trans (show DataW.trod enc Tryd.prog w base spare held n 24 [c4] = xs[4]? from this) hy4
  have hw4 : WB Tryd.prog 24 y4.1 := WB.part (i := 4) Tryd.underlying26 hw rfl (by rw [List.getElem?_map, hy4]; rfl)
  obtain ⟨x4, l4, e4, r4, ⟨n4, k4⟩, p4⟩ := open_rowsW (size := 5) trAV fewW_tr (fun _ => rfl) Tryd.underlying24 c_tr (by decide) open_trW hw4 h4
  cases e4
  exact ⟨⟨t0, x1, l2, l3, l4⟩, ⟨⟨rfl, .lit _⟩, ⟨rfl, .lit _⟩, r2, r3, r4, trivial⟩, ⟨(by simpa [ByteArray.size] using s0), ⟨n2, p2⟩, ⟨n3, fun a ha => (p3 a ha).1⟩, ⟨n4, fun a ha => (p4 a ha).1⟩⟩, p3, p4⟩
/-- A chart by value; what it weighs finds room. -/
theorem open_chartW {r0 : Reach} {b0 : Nat} {v : Value} {d : DataW H} {p : List MemPlace} (hv : Value.okWide Tryd.prog w r0 b0 26 v) (hw : WB Tryd.prog 26 d) (h : DataW.Trod enc Tryd.prog w base spare held 26 v d p) :
    ∃ c : ChD, fewW_ch c ∧ RV (fun b _ => b < w.heap.size) w v (.agg (chAV c)) := by
  obtain ⟨cs, rfl, hsz⟩ := okWide_struct Tryd.underlying26 hv
  obtain ⟨l⟩ := cs
  obtain ⟨fuel, hf⟩ := h
  obtain ⟨c, h1, h2⟩ := open_chW _ _ _ hf hw
  exact ⟨c, h2, RVs.agg h1⟩
end
end Go.Proofs.YtaonccobohiiiaaDoor
