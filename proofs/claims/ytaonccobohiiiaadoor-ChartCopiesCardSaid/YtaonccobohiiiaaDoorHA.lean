/- awake of layer 24, by the contracts of what it calls: it changes a chart that it made. -/
import Derived.Test.YtaonccobohiiiaaDoorHP
import Derived.Test.YtaonccobohiiiaaDoorE3
import Derived.Test.YtaonccobohiiiaaDoorBr
namespace Go.Proofs.YtaonccobohiiiaaDoor
open Go.RowKit

def smallD (k : Int) : ChD := ⟨[99], 0, [], [⟨[97], 1, -1, k, [], []⟩, ⟨[98], 1, 0, -1, [], []⟩], []⟩
abbrev smallCs (k : Int) : Array Value := #[.string ⟨#[97]⟩, .int .i64 1, .int .i64 (-1), .int .i64 k, .slice none 0 0, .slice none 0 0, .string ⟨#[98]⟩, .int .i64 1, .int .i64 0, .int .i64 (-1), .slice none 0 0, .slice none 0 0]
abbrev smallV (g : Nat) : Value := .agg #[.string ⟨#[99]⟩, .int .i64 0, .slice none 0 0, .slice (some ⟨g, 0, none⟩) 2 2, .slice none 0 0]
/-- Twelve cells read as two states. -/
def SmallAt (w : World) (g : Nat) (k : Int) : Prop := ∀ i v, (smallCs k)[i]? = some v → w.cell? ⟨g, i, none⟩ = some v
theorem SmallAt.below {w w' : World} {g : Nat} {k : Int} (h : SmallAt w g k) (hb : Below w.heap.size w w') : SmallAt w' g k := fun i v hi => cell_below (h i v hi) hb
theorem nilS_rv (S : Nat → Nat → Prop) (w : World) (sz : Nat) : RV S w (.slice none 0 0) (.seq sz []) := Str.nil sz S w _ (.lit _)
theorem small_rv {w : World} {g : Nat} {k : Int} (h : SmallAt w g k) : RV (fun b _ => b < w.heap.size) w (smallV g) (.agg (chAV (smallD k))) := by
  refine RVs.agg (vs := [.string ⟨#[99]⟩, .int .i64 0, .slice none 0 0, .slice (some ⟨g, 0, none⟩) 2 2, .slice none 0 0]) ⟨⟨rfl, .lit _⟩, ⟨rfl, .lit _⟩, ⟨rfl, nilS_rv _ _ _⟩, ⟨rfl, ?_⟩, ⟨rfl, nilS_rv _ _ _⟩, trivial⟩
  have hlt : g < w.heap.size := cell_lt (h 0 _ rfl)
  refine .seq _ 2 2 6 _ g 0 (fun i j => (smallCs k).getD (i * 6 + j) undef) rfl (Nat.le_refl _) (fun _ => rfl) ?_ ?_ ?_
  · intro i e he
    match i, he with
    | 0, he => cases he; rfl
    | 1, he => cases he; rfl
  · intro i j c hc
    refine ⟨hlt, ?_⟩
    match i, hc with
    | 0, hc =>
      match j, hc with
      | 0, _ => exact ⟨by simpa using h 0 _ rfl, rfl⟩
      | 1, _ => exact ⟨by simpa using h 1 _ rfl, rfl⟩
      | 2, _ => exact ⟨by simpa using h 2 _ rfl, rfl⟩
      | 3, _ => exact ⟨by simpa using h 3 _ rfl, rfl⟩
      | 4, _ => exact ⟨by simpa using h 4 _ rfl, rfl⟩
      | 5, _ => exact ⟨by simpa using h 5 _ rfl, rfl⟩
    | 1, hc =>
      match j, hc with
      | 0, _ => exact ⟨by simpa using h 6 _ rfl, rfl⟩
      | 1, _ => exact ⟨by simpa using h 7 _ rfl, rfl⟩
      | 2, _ => exact ⟨by simpa using h 8 _ rfl, rfl⟩
      | 3, _ => exact ⟨by simpa using h 9 _ rfl, rfl⟩
      | 4, _ => exact ⟨by simpa using h 10 _ rfl, rfl⟩
      | 5, _ => exact ⟨by simpa using h 11 _ rfl, rfl⟩
  · intro i j c hc
    match i, hc with
    | 0, hc =>
      match j, hc with
      | 0, hc => cases hc; exact .lit _
      | 1, hc => cases hc; exact .lit _
      | 2, hc => cases hc; exact .lit _
      | 3, hc => cases hc; exact .lit _
      | 4, hc => cases hc; exact nilS_rv _ _ _
      | 5, hc => cases hc; exact nilS_rv _ _ _
    | 1, hc =>
      match j, hc with
      | 0, hc => cases hc; exact .lit _
      | 1, hc => cases hc; exact .lit _
      | 2, hc => cases hc; exact .lit _
      | 3, hc => cases hc; exact .lit _
      | 4, hc => cases hc; exact nilS_rv _ _ _
      | 5, hc => cases hc; exact nilS_rv _ _ _

/-- Of a world that holds what the walk leans on: all of its blocks. -/
theorem EnvOk.all {env : Env} {S : Nat → Nat → Prop} {w : World} (h : EnvOk env S w) : EnvOk env (fun b _ => b < w.heap.size) w := ⟨h.inv, fun _ _ h => h, fun g c hg => by
  obtain ⟨u, h1, h2, h3, h4⟩ := h.env g c hg
  exact ⟨u, h1, h2, h.low _ _ h3, h4.mono fun b o hb => ⟨h.low _ _ hb, .rfl⟩⟩⟩
theorem EnvOk.belowA {env : Env} {w w' : World} (h : EnvOk env (fun b _ => b < w.heap.size) w) (hb : Below w.heap.size w w') : EnvOk env (fun b _ => b < w'.heap.size) w' := ⟨env.up _ _ h.inv hb, fun _ _ h => h, fun g c hg => by
  obtain ⟨u, h1, h2, h3, h4⟩ := h.env g c hg
  exact ⟨u, cell_below h1 hb, h2, Nat.lt_of_lt_of_le h3 hb.size, h4.mono fun b o (hbo : b < _) => ⟨Nat.lt_of_lt_of_le hbo hb.size, hb.stay hbo⟩⟩⟩
/-- A call by a contract, in a world that holds what it leans on. -/
theorem con_call {P : Program} {env : Env} {f : FuncId} {cs : List AV} {res : AV} {w : World} {vs : List Value} (h : Con P env f cs res) (hE : EnvOk env (fun b _ => b < w.heap.size) w) (hres : ∀ e sz es, res ≠ .own e sz es) (hv : RAs (fun b _ => b < w.heap.size) w vs cs) :
    Calls P f vs.toArray w fun e w' => ∃ v, e = .returned v ∧ Below w.heap.size w w' ∧ EnvOk env (fun b _ => b < w'.heap.size) w' ∧ RV (fun b _ => b < w'.heap.size) w' v res := by
  obtain ⟨h1, h2⟩ := hv.at_
  refine (h.calls w _ vs hE h1 h2).mono ?_
  rintro e w' ⟨v, rfl, hb, S', _, _, hlt, hr⟩
  refine ⟨v, rfl, hb, hE.belowA hb, ?_⟩
  have hr' : RV S' w' v res := by
    cases res with
    | own e sz es => exact (hres e sz es rfl).elim
    | _ => exact hr
  exact hr'.mono fun b o hbo => ⟨hlt b o hbo, .rfl⟩

set_option maxHeartbeats 4000000 in
set_option maxRecDepth 100000 in
theorem small24_any (w : World) : Calls Tryd.prog 15 #[] w fun e w' => ∃ g, e = .returned (smallV g) ∧ w.heap.size ≤ g ∧ Below w.heap.size w w' ∧ Whole w' g 32 (smallCs 1) := by
  go_enter Tryd.func15, Tryd.ntmps15
  go_wp2
  go_returns
  refine ⟨w.heap.size + 1, rfl, by omega, ?_, ?_⟩
  · exact ((Below.refl _ _).alloc (Nat.le_refl _) _).alloc (by simp) _
  · have := Whole.new (w.alloc (.cells #[.string ⟨#[99]⟩, .int .i64 0, .slice none 0 0, .slice (some ⟨w.heap.size + 1, 0, none⟩) 2 2, .slice none 0 0] 26)) 32 (smallCs 1)
    simpa using this

set_option maxHeartbeats 4000000 in
set_option maxRecDepth 100000 in
theorem awake_by (env : Env) (aF : Addr) (hC1 : Con Tryd.prog env 16 [.agg (chAV (smallD 1))] (.lit .nilIface)) (hC2 : Con Tryd.prog env 16 [.agg (chAV (smallD (-1)))] (errV 0 (sentV aF)))
    (hP : Con Tryd.prog env 17 [errV 0 (sentV aF)] (I 0)) (hF : Con Tryd.prog env 18 [.agg (chAV (smallD 1)), Sg [98]] (I 1)) :
    Con Tryd.prog env 6 [] (B true) := by
  refine con_lit Tryd.call6 fun w S vs hE hl hv => ?_
  match vs, hl with
  | [], _ =>
  try clear hv
  have E0 := Lib.hid hE.all
  try clear hE
  go_enter Tryd.func6, Tryd.ntmps6
  go_wp2_with fail
  refine (small24_any _).mono ?_
  rintro e w1 ⟨g, rfl, hg, hb1, hw1⟩
  have B1 := Lib.hid hb1
  have W1 := Lib.hid hw1
  have c3 := hw1.cell 3
  have z3 := hw1.frozen 3
  have L1 := hw1.lt
  try clear hb1 hw1
  go_wp2_with fail
  have hb2 : Below w.heap.size w ((w1.setCell ⟨g, 3, none⟩ (.int .i64 (-1))).alloc (.cells #[.string ⟨#[99]⟩, .int .i64 0, .slice none 0 0, .slice (some ⟨g, 0, none⟩) 2 2, .slice none 0 0] 26)) := (B1.out.setCell hg _).alloc (by have := B1.out.size; simp; omega) _
  have hs2 : SmallAt ((w1.setCell ⟨g, 3, none⟩ (.int .i64 (-1))).alloc (.cells #[.string ⟨#[99]⟩, .int .i64 0, .slice none 0 0, .slice (some ⟨g, 0, none⟩) 2 2, .slice none 0 0] 26)) g (-1) := fun i v hi => by
    have := ((W1.out.put 3 (.int .i64 (-1))).alloc (.cells #[.string ⟨#[99]⟩, .int .i64 0, .slice none 0 0, .slice (some ⟨g, 0, none⟩) 2 2, .slice none 0 0] 26)).cell i
    rw [this, ← hi]
    rfl
  have hw2 : Whole ((w1.setCell ⟨g, 3, none⟩ (.int .i64 (-1))).alloc (.cells #[.string ⟨#[99]⟩, .int .i64 0, .slice none 0 0, .slice (some ⟨g, 0, none⟩) 2 2, .slice none 0 0] 26)) w1.heap.size 26 #[.string ⟨#[99]⟩, .int .i64 0, .slice none 0 0, .slice (some ⟨g, 0, none⟩) 2 2, .slice none 0 0] := by
    have := Whole.new (w1.setCell ⟨g, 3, none⟩ (.int .i64 (-1))) 26 #[.string ⟨#[99]⟩, .int .i64 0, .slice none 0 0, .slice (some ⟨g, 0, none⟩) 2 2, .slice none 0 0]
    simpa using this
  generalize ((w1.setCell ⟨g, 3, none⟩ (.int .i64 (-1))).alloc (.cells #[.string ⟨#[99]⟩, .int .i64 0, .slice none 0 0, .slice (some ⟨g, 0, none⟩) 2 2, .slice none 0 0] 26)) = W2 at *
  have g2 := hw2.lt
  generalize w1.heap.size = q at *
  have E2 := Lib.hid (E0.out.belowA hb2)
  have B2 := Lib.hid hb2
  have S2 := Lib.hid hs2
  have H2 := Lib.hid hw2
  try clear hb2 hs2 hw2 B1 W1 c3 z3 L1 E0
  refine (small24_any _).mono ?_
  rintro e w3 ⟨g3, rfl, hg3, hb3, hw3⟩
  have E3 := Lib.hid (E2.out.belowA hb3)
  have B3 := Lib.hid (B2.out.trans (hb3.mono B2.out.size))
  have S3 := Lib.hid (S2.out.below hb3)
  have H3 := Lib.hid (H2.out.below hb3 H2.out.lt)
  have M3 : Hid (SmallAt w3 g3 1) := Lib.hid (fun i v hi => (hw3.cell i).trans hi)
  try clear hb3 hw3 E2 B2 S2 H2
  go_wp2_with fail
  refine (con_call hC1 E3.out (fun _ _ _ => by simp) (vs := [smallV g3]) ⟨small_rv M3.out, trivial⟩).mono ?_
  rintro e w4 ⟨v4, rfl, hb4, e4, hv4⟩
  obtain rfl := hv4.lit_inv
  have E4 := Lib.hid e4
  have B4 := Lib.hid (B3.out.trans (hb4.mono B3.out.size))
  have S4 := Lib.hid (S3.out.below hb4)
  have H4 := Lib.hid (H3.out.below hb4 H3.out.lt)
  have k0 := H4.out.cell 0
  have k1 := H4.out.cell 1
  have k2 := H4.out.cell 2
  have k3 := H4.out.cell 3
  have k4 := H4.out.cell 4
  simp only [List.getElem?_toArray, List.getElem?_cons_zero, List.getElem?_cons_succ] at k0 k1 k2 k3 k4
  try clear hb4 hv4 e4 E3 B3 S3 H3 M3
  go_wp2_with fail
  try clear k0 k1 k2 k3 k4
  refine (con_call hC2 E4.out (fun _ _ _ => by simp [errV]) (vs := [smallV g]) ⟨small_rv S4.out, trivial⟩).mono ?_
  rintro e w5 ⟨v5, rfl, hb5, e5, hv5⟩
  have E5 := Lib.hid e5
  have B5 := Lib.hid (B4.out.trans (hb5.mono B4.out.size))
  have V5 := Lib.hid hv5
  try clear hb5 hv5 e5 E4 B4 S4 H4
  go_wp2_with fail
  refine (con_call hP E5.out (fun _ _ _ => by simp) (vs := [v5]) ⟨V5.out, trivial⟩).mono ?_
  rintro e w6 ⟨v6, rfl, hb6, e6, hv6⟩
  obtain rfl := hv6.lit_inv
  have E6 := Lib.hid e6
  have B6 := Lib.hid (B5.out.trans (hb6.mono B5.out.size))
  try clear hb6 hv6 e6 E5 B5 V5
  go_wp2_with fail
  refine (small24_any _).mono ?_
  rintro e w7 ⟨g7, rfl, hg7, hb7, hw7⟩
  have E7 := Lib.hid (E6.out.belowA hb7)
  have B7 := Lib.hid (B6.out.trans (hb7.mono B6.out.size))
  have M7 : Hid (SmallAt w7 g7 1) := Lib.hid (fun i v hi => (hw7.cell i).trans hi)
  try clear hb7 hw7 E6 B6
  go_wp2_with fail
  refine (con_call hF E7.out (fun _ _ _ => by simp) (vs := [smallV g7, .string ⟨#[98]⟩]) ⟨small_rv M7.out, .lit _, trivial⟩).mono ?_
  rintro e w8 ⟨v8, rfl, hb8, e8, hv8⟩
  obtain rfl := hv8.lit_inv
  have B8 := Lib.hid (B7.out.trans (hb8.mono B7.out.size))
  try clear hb8 hv8 e8 E7 B7 M7
  go_wp2_with fail
  go_ret
  exact ⟨rfl, B8.out⟩
end Go.Proofs.YtaonccobohiiiaaDoor
