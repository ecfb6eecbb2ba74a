/- A record that came in, opened; as a value of the walk without memory; record.Check. -/
import Derived.Test.YtbnanjcghhfcpaaDoorIC
import Derived.Test.YtbnanjcghhfcpaaDoorLaid
import Derived.Test.YtbnanjcghhfcpaaDoorCAB
import Derived.Test.YtbnanjcghhfcpaaDoorE1
set_option linter.unusedSimpArgs false
namespace Go.Proofs.YtbnanjcghhfcpaaDoor
open Go.RowKit Go.ChangeShapes Go.WideShapes Go.Deep

section
variable {H : Type} {enc : TypeId × Value → H} {P : Program} {w : World} {base : Nat} {spare : Nat → Bool} {held : Bool}
theorem trod_field {fs : Array Field} {cs : List Value} {n : Nat} {xs : List (DataW H × List MemPlace)} (hx : xs.length = fs.size) (hg : ∀ (i : Nat) (f : Field), fs[i]? = some f → DataW.trod enc P w base spare held n f.type ((cs.drop f.offset).take (P.cellsOf f.type)) = xs[i]?)
    (i : Nat) (f : Field) (hf : fs[i]? = some f) (ty off k : Nat) (h1 : f.type = ty) (h2 : f.offset = off) (h3 : P.cellsOf ty = k) : ∃ y, DataW.trod enc P w base spare held n ty ((cs.drop off).take k) = some y := by
  have h := hg i f hf
  rw [h1, h2, h3] at h
  have hi : i < fs.size := (Array.getElem?_eq_some_iff.1 hf).1
  rw [List.getElem?_eq_getElem (by omega)] at h
  exact ⟨_, h⟩
end

section
variable {H : Type} {enc : TypeId × Value → H} {w : World} {base : Nat} {spare : Nat → Bool} {held : Bool}
theorem list_two {l : List Value} (h : l.length = 2) : ∃ a b, l = [a, b] := by
  match l, h with
  | [a, b], _ => exact ⟨a, b, rfl⟩
theorem list_eight {l : List Value} (h : l.length = 8) : ∃ a b c d e f x y, l = [a, b, c, d, e, f, x, y] := by
  match l, h with
  | [a, b, c, d, e, f, x, y], _ => exact ⟨a, b, c, d, e, f, x, y, rfl⟩
theorem cellsMem : Tryd.prog.cellsOf 40 = 2 := by kernel_rfl
theorem cellsTim : Tryd.prog.cellsOf 70 = 2 := by kernel_rfl
theorem cellsRec : Tryd.prog.cellsOf 38 = 8 := by kernel_rfl
theorem cellsIns : Tryd.prog.cellsOf 36 = 5 := by kernel_rfl
theorem cellsI : Tryd.prog.cellsOf 3 = 1 := by kernel_rfl
theorem cellsIs : Tryd.prog.cellsOf 32 = 1 := by kernel_rfl
theorem cellsMs : Tryd.prog.cellsOf 33 = 1 := by kernel_rfl
theorem cellsTs : Tryd.prog.cellsOf 34 = 1 := by kernel_rfl
theorem cellsS : Tryd.prog.cellsOf 9 = 1 := by kernel_rfl
theorem cellsB : Tryd.prog.cellsOf 4 = 1 := by kernel_rfl
set_option maxRecDepth 100000 in
theorem open_mem (m : Nat) (cs : List Value) (y : DataW H × List MemPlace) (h : DataW.trod enc Tryd.prog w base spare held m 40 cs = some y) : ∃ a, memR w w.heap.size cs a := by
  obtain ⟨xs, n, _, _, hl, hxl, hg⟩ := DataW.trod_struct Tryd.underlying40 h
  rw [cellsMem] at hl
  obtain ⟨c0, c1, rfl⟩ := list_two hl
  obtain ⟨y0, h0⟩ := trod_field hxl hg 0 _ rfl 3 0 1 rfl rfl cellsI
  obtain ⟨y1, h1⟩ := trod_field hxl hg 1 _ rfl 32 1 1 rfl rfl cellsIs
  obtain ⟨s, e0, -, -⟩ := DataW.trod_int Tryd.underlying3 (show DataW.trod enc Tryd.prog w base spare held n 3 [c0] = some y0 from h0)
  obtain ⟨v, l, e1, hl⟩ := open_list (R := intR) (size := 1) Tryd.underlying32 cellsI (by decide) (open_intE Tryd.underlying3) (show DataW.trod enc Tryd.prog w base spare held n 32 [c1] = some y1 from h1)
  cases e0
  cases e1
  exact ⟨(s, l), _, rfl, hl⟩
set_option maxRecDepth 100000 in
theorem open_tm (m : Nat) (cs : List Value) (y : DataW H × List MemPlace) (h : DataW.trod enc Tryd.prog w base spare held m 70 cs = some y) : ∃ a, tmR cs a := by
  obtain ⟨xs, n, _, _, hl, hxl, hg⟩ := DataW.trod_struct Tryd.underlying70 h
  rw [cellsTim] at hl
  obtain ⟨c0, c1, rfl⟩ := list_two hl
  obtain ⟨y0, h0⟩ := trod_field hxl hg 0 _ rfl 9 0 1 rfl rfl cellsS
  obtain ⟨y1, h1⟩ := trod_field hxl hg 1 _ rfl 3 1 1 rfl rfl cellsI
  obtain ⟨s, e0, -, hs⟩ := DataW.trod_string Tryd.underlying9 (show DataW.trod enc Tryd.prog w base spare held n 9 [c0] = some y0 from h0)
  obtain ⟨x, e1, -, -⟩ := DataW.trod_int Tryd.underlying3 (show DataW.trod enc Tryd.prog w base spare held n 3 [c1] = some y1 from h1)
  cases e0
  cases e1
  obtain ⟨⟨sl⟩⟩ := s
  exact ⟨(sl, x), rfl, by unfold maxLen at hs; simpa [ByteArray.size] using hs⟩
set_option maxRecDepth 100000 in
/-- A record by value. -/
theorem open_rec {r0 : Reach} {b0 : Nat} {v : Value} {d : DataW H} {p : List MemPlace} (hv : Value.okWide Tryd.prog w r0 b0 38 v) (h : DataW.Trod enc Tryd.prog w base spare held 38 v d p) :
    ∃ r va vv vm vt, v = .agg (recV r va vv vm vt) ∧ InAt w w.heap.size va vv vm vt r := by
  obtain ⟨cs, rfl, hsz⟩ := okWide_struct Tryd.underlying38 hv
  obtain ⟨l⟩ := cs
  rw [cellsRec] at hsz
  have hsz : l.length = 8 := hsz
  obtain ⟨c0, c1, c2, c3, c4, c5, c6, c7, rfl⟩ := list_eight hsz
  obtain ⟨fuel, hf⟩ := h
  obtain ⟨xs, n, _, _, _, hxl, hg⟩ := DataW.trod_struct Tryd.underlying38 hf
  obtain ⟨y0, h0⟩ := trod_field hxl hg 0 _ rfl 3 0 1 rfl rfl cellsI
  obtain ⟨y1, h1⟩ := trod_field hxl hg 1 _ rfl 3 1 1 rfl rfl cellsI
  obtain ⟨y2, h2⟩ := trod_field hxl hg 2 _ rfl 3 2 1 rfl rfl cellsI
  obtain ⟨y3, h3⟩ := trod_field hxl hg 3 _ rfl 36 3 5 rfl rfl cellsIns
  obtain ⟨x0, e0, -, -⟩ := DataW.trod_int Tryd.underlying3 (show DataW.trod enc Tryd.prog w base spare held n 3 [c0] = some y0 from h0)
  obtain ⟨x1, e1, -, -⟩ := DataW.trod_int Tryd.underlying3 (show DataW.trod enc Tryd.prog w base spare held n 3 [c1] = some y1 from h1)
  obtain ⟨x2, e2, -, -⟩ := DataW.trod_int Tryd.underlying3 (show DataW.trod enc Tryd.prog w base spare held n 3 [c2] = some y2 from h2)
  cases e0
  cases e1
  cases e2
  obtain ⟨zs, k, _, _, _, hzl, hgz⟩ := DataW.trod_struct Tryd.underlying36 (show DataW.trod enc Tryd.prog w base spare held n 36 [c3, c4, c5, c6, c7] = some y3 from h3)
  obtain ⟨z0, g0⟩ := trod_field hzl hgz 0 _ rfl 32 0 1 rfl rfl cellsIs
  obtain ⟨z1, g1⟩ := trod_field hzl hgz 1 _ rfl 32 1 1 rfl rfl cellsIs
  obtain ⟨z2, g2⟩ := trod_field hzl hgz 2 _ rfl 33 2 1 rfl rfl cellsMs
  obtain ⟨z3, g3⟩ := trod_field hzl hgz 3 _ rfl 34 3 1 rfl rfl cellsTs
  obtain ⟨z4, g4⟩ := trod_field hzl hgz 4 _ rfl 4 4 1 rfl rfl cellsB
  obtain ⟨va, ac, q0, ha⟩ := open_list (R := intR) (size := 1) Tryd.underlying32 cellsI (by decide) (open_intE Tryd.underlying3) (show DataW.trod enc Tryd.prog w base spare held k 32 [c3] = some z0 from g0)
  obtain ⟨vv, vs, q1, hvs⟩ := open_list (R := intR) (size := 1) Tryd.underlying32 cellsI (by decide) (open_intE Tryd.underlying3) (show DataW.trod enc Tryd.prog w base spare held k 32 [c4] = some z1 from g1)
  obtain ⟨vm, ms, q2, hms⟩ := open_list (R := memR w w.heap.size) (size := 2) Tryd.underlying33 cellsMem (by decide) open_mem (show DataW.trod enc Tryd.prog w base spare held k 33 [c5] = some z2 from g2)
  obtain ⟨vt, ts, q3, hts⟩ := open_list (R := tmR) (size := 2) Tryd.underlying34 cellsTim (by decide) open_tm (show DataW.trod enc Tryd.prog w base spare held k 34 [c6] = some z3 from g3)
  obtain ⟨ov, q4, -⟩ := DataW.trod_bool Tryd.underlying4 (show DataW.trod enc Tryd.prog w base spare held k 4 [c7] = some z4 from g4)
  cases q0
  cases q1
  cases q2
  cases q3
  cases q4
  exact ⟨⟨x0, x1, x2, ac, vs, ms, ts, ov⟩, _, _, _, _, rfl, ha, hvs, hms, hts⟩
end

theorem slice_one {α : Type} {w : World} {B size : Nat} {R : List Value → α → Prop} {v : Value} {l : List α} (h : ListAt w B size R v l) : v.oneCell' = true := by
  obtain ⟨A, c, rfl, _⟩ := h.form
  rfl
theorem ints_rv {w : World} {B : Nat} {v : Value} {l : List Int} (h : ListAt w B 1 intR v l) : RV (fun b _ => b < B) w v (Il l) :=
  list_rv iAV (fun _ => rfl) h fun cs a _ hr j u c hu hc => by
    have hr : cs = [.int .i64 a] := hr
    subst hr
    exact (RVs.at_ (S := fun b _ => b < B) (w := w) (vs := [.int .i64 a]) (cs := [I a]) ⟨⟨rfl, .lit _⟩, trivial⟩).2 j u c hu hc
theorem mems_rv {w : World} {B : Nat} {v : Value} {l : List (Int × List Int)} (h : ListAt w B 2 (memR w B) v l) : RV (fun b _ => b < B) w v (.seq 2 (l.map memAV)) :=
  list_rv memAV (fun _ => rfl) h fun cs a _ hr j u c hu hc => by
    obtain ⟨x, rfl, hx⟩ := hr
    exact (RVs.at_ (S := fun b _ => b < B) (w := w) (vs := [.int .i64 a.1, x]) (cs := [I a.1, Il a.2]) ⟨⟨rfl, .lit _⟩, ⟨slice_one hx, ints_rv hx⟩, trivial⟩).2 j u c hu hc
theorem tms_rv {w : World} {B : Nat} {v : Value} {l : List (List UInt8 × Int)} (h : ListAt w B 2 tmR v l) : RV (fun b _ => b < B) w v (.seq 2 (l.map tmAV)) :=
  list_rv tmAV (fun _ => rfl) h fun cs a _ hr j u c hu hc => by
    obtain ⟨rfl, _⟩ := hr
    exact (RVs.at_ (S := fun b _ => b < B) (w := w) (vs := [.string ⟨a.1.toArray⟩, .int .i64 a.2]) (cs := [Sg a.1, I a.2]) ⟨⟨rfl, .lit _⟩, ⟨rfl, .lit _⟩, trivial⟩).2 j u c hu hc
theorem rec_rv {w : World} {B : Nat} {va vv vm vt : Value} {r : Rc} (h : InAt w B va vv vm vt r) : RV (fun b _ => b < B) w (.agg (recV r va vv vm vt)) (.agg (recAV r)) :=
  RVs.agg (vs := [.int .i64 r.chart, .int .i64 r.born, .int .i64 r.steps, va, vv, vm, vt, .bool r.over]) (cs := recAV r)
    ⟨⟨rfl, .lit _⟩, ⟨rfl, .lit _⟩, ⟨rfl, .lit _⟩, ⟨slice_one h.act, ints_rv h.act⟩, ⟨slice_one h.vars, ints_rv h.vars⟩, ⟨slice_one h.mem, mems_rv h.mem⟩, ⟨slice_one h.tms, tms_rv h.tms⟩, ⟨rfl, .lit _⟩, trivial⟩
theorem one_of {S : Nat → Nat → Prop} {w : World} {cs : List Value} {u : Value} (hl : cs.length = 1) (h : ∀ (j : Nat) (v : Value) (c : AV), cs[j]? = some v → [AV.lit u][j]? = some c → RV S w v c) : cs = [u] := by
  match cs, hl with
  | [v], _ => rw [(h 0 v _ rfl rfl).lit_inv]
theorem rv_ints {w : World} {B : Nat} {v : Value} {l : List Int} (hmax : l.length ≤ maxLen) (h : RV (fun b _ => b < B) w v (Il l)) : ListAt w B 1 intR v l :=
  rv_list iAV (fun _ => rfl) (by decide) hmax h fun a cs _ hl hc => one_of hl hc
theorem two_of {S : Nat → Nat → Prop} {w : World} {cs : List Value} {c1 c2 : AV} (hl : cs.length = 2) (h : ∀ (j : Nat) (v : Value) (c : AV), cs[j]? = some v → [c1, c2][j]? = some c → RV S w v c) : ∃ v1 v2, cs = [v1, v2] ∧ RV S w v1 c1 ∧ RV S w v2 c2 := by
  match cs, hl with
  | [v1, v2], _ => exact ⟨v1, v2, rfl, h 0 v1 _ rfl rfl, h 1 v2 _ rfl rfl⟩
theorem rv_rec {w : World} {B : Nat} {v : Value} {r : Rc} (hl : Lite r) (ht : ∀ t ∈ r.timers, t.1.length ≤ 9223372036854775807) (h : RV (fun b _ => b < B) w v (.agg (recAV r))) : ∃ va vv vm vt, v = .agg (recV r va vv vm vt) ∧ InAt w B va vv vm vt r := by
  obtain ⟨vs, rfl, hlen, hc⟩ := h.agg_inv
  match vs, hlen with
  | [v0, v1, v2, v3, v4, v5, v6, v7], _ =>
    have g0 := (hc 0 v0 _ rfl rfl).2.lit_inv
    have g1 := (hc 1 v1 _ rfl rfl).2.lit_inv
    have g2 := (hc 2 v2 _ rfl rfl).2.lit_inv
    have g3 := (hc 3 v3 _ rfl rfl).2
    have g4 := (hc 4 v4 _ rfl rfl).2
    have g5 := (hc 5 v5 _ rfl rfl).2
    have g6 := (hc 6 v6 _ rfl rfl).2
    have g7 := (hc 7 v7 _ rfl rfl).2.lit_inv
    subst g0 g1 g2 g7
    have mx : ∀ n : Nat, n ≤ 1000000 → n ≤ maxLen := fun n hn => by unfold maxLen; omega
    refine ⟨v3, v4, v5, v6, rfl, rv_ints (mx _ hl.active) g3, rv_ints (mx _ hl.vars) g4, rv_list memAV (fun _ => rfl) (by decide) (mx _ hl.mem) g5 fun a cs ha hl' hc' => ?_, rv_list tmAV (fun _ => rfl) (by decide) (mx _ hl.timers) g6 fun a cs ha hl' hc' => ?_⟩
    · obtain ⟨x, y, rfl, hx, hy⟩ := two_of hl' hc'
      obtain rfl := hx.lit_inv
      exact ⟨y, rfl, rv_ints (mx _ (hl.states a ha)) hy⟩
    · obtain ⟨x, y, rfl, hx, hy⟩ := two_of hl' hc'
      obtain rfl := hx.lit_inv
      obtain rfl := hy.lit_inv
      exact ⟨rfl, ht a ha⟩


/-- A short chain's first link, as a value. -/
theorem whole_err {S : Nat → Nat → Prop} {w : World} {n : Nat} {s : ByteArray} {a : Addr} (h : Whole w n 84 #[.string s, .int .i64 (-1), .iface 145 (.pointer (some a))]) (hS : ∀ o, S n o) :
    RV S w (.iface 82 (.pointer (some ⟨n, 0, none⟩))) (errV (-1) (sentV a)) := by
  have hu : ∀ (i j : Nat) (c : AV), cellAt [[.any, I (-1), sentV a]] i j = some c → i = 0 ∧ (j = 0 ∧ c = .any ∨ j = 1 ∧ c = I (-1) ∨ j = 2 ∧ c = sentV a) := fun i j c hc => by
    cases i with
    | zero =>
      refine ⟨rfl, ?_⟩
      have hc : [AV.any, I (-1), sentV a][j]? = some c := hc
      match j, hc with
      | 0, hc => exact .inl ⟨rfl, (Option.some.inj hc).symm⟩
      | 1, hc => exact .inr (.inl ⟨rfl, (Option.some.inj hc).symm⟩)
      | 2, hc => exact .inr (.inr ⟨rfl, (Option.some.inj hc).symm⟩)
    | succ i => simp [cellAt] at hc
  refine .iface _ _ _ ?_
  have := RV.ref (S := S) (w := w) 3 [[.any, I (-1), sentV a]] 0 0 n 0 (fun _ j => match j with | 0 => .string s | 1 => .int .i64 (-1) | _ => .iface 145 (.pointer (some a))) (fun i e he => by
    cases i with
    | zero => simp at he; rw [← he]; rfl
    | succ i => simp at he) (fun i j c hc => by
    obtain ⟨rfl, h1⟩ := hu i j c hc
    rcases h1 with ⟨rfl, rfl⟩ | ⟨rfl, rfl⟩ | ⟨rfl, rfl⟩
    · exact ⟨hS _, h.cell 0, rfl⟩
    · exact ⟨hS _, h.cell 1, rfl⟩
    · exact ⟨hS _, h.cell 2, rfl⟩) (fun i j c hc => by
    obtain ⟨rfl, h1⟩ := hu i j c hc
    rcases h1 with ⟨rfl, rfl⟩ | ⟨rfl, rfl⟩ | ⟨rfl, rfl⟩
    · exact .any _
    · exact .lit _
    · exact .lit _)
  simpa using this
theorem check_con (ad : Nat → Addr) (mo : More) (r : Rc) (hl : Lite r) (ht : ∀ t ∈ r.timers, t.1.length ≤ 9223372036854775807) : Con Tryd.prog (errEnv ad mo) 30 [.agg (recAV r)] (if rightB r then nilE else errV (-1) (sentV (ad 1))) := by
  refine ⟨Tryd.call30, fun w S vs hE hlen hv => ?_⟩
  match vs, hlen with
  | [v], _ =>
    have hS : Sents w ad := hE.inv.1
    obtain ⟨va, vv, vm, vt, rfl, hI⟩ := rv_rec hl ht ((hv 0 v _ rfl rfl).mono (S' := fun b _ => b < w.heap.size) fun b o hb => ⟨hE.low b o hb, rfl⟩)
    refine (checkAt_any r va vv vm vt w hI (ad 1) hS.s1).mono ?_
    rintro e w' ⟨E, rfl, hb, h⟩
    rcases h with ⟨h1, rfl⟩ | ⟨h1, n, s, rfl, h2, h3⟩
    · rw [h1]
      exact ⟨_, rfl, hb, S, fun _ _ h => h, fun _ _ h => .inl h, fun b o hb' => Nat.lt_of_lt_of_le (hE.low b o hb') hb.size, .lit _⟩
    · rw [h1]
      refine ⟨_, rfl, hb, fun b o => S b o ∨ b = n, fun _ _ h => .inl h, fun b o h => h.elim .inl fun e => .inr (e ▸ h2), fun b o h => h.elim (fun hb' => Nat.lt_of_lt_of_le (hE.low b o hb') hb.size) fun e => ?_, whole_err h3 fun _ => .inr rfl⟩
      rw [e]
      have := h3.cell 0
      rcases Nat.lt_or_ge n w'.heap.size with q | q
      · exact q
      · simp [World.cell?, Array.getElem?_eq_none q] at this
end Go.Proofs.YtbnanjcghhfcpaaDoor
