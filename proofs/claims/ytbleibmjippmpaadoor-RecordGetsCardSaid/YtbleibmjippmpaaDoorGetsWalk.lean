/- The walk of RecordGets. -/
import Derived.Test.YtbleibmjippmpaaDoorLaw34
import Derived.Test.YtbleibmjippmpaaDoorTells34
import Derived.Test.YtbleibmjippmpaaDoorCB
import Derived.Test.YtbleibmjippmpaaDoorPutsWalk
namespace Go.Proofs.YtbleibmjippmpaaDoor
open Go.RowKit

theorem cell_put {w : World} {base n g k : Nat} {e : TypeId} {v u : Value} {xs : List Value} (h : w.ownsRow base e 1 v n xs) (hg : v.ownBlock = some g) :
    (w.setCell ⟨g, k, none⟩ u).ownsRow base e 1 v n (xs.set k u) ∧ w.grownBy (w.setCell ⟨g, k, none⟩ u) (some g) := by
  rcases h.2 with ⟨e0, _⟩ | ⟨g', cap, cur, e1, e2, e3, e4, e5, e6, e7⟩
  · rw [e0] at hg; cases hg
  · rw [e1] at hg
    simp [Value.ownBlock] at hg
    subst hg
    rw [setCell_eq_setRow _ _ _ _ _ _ _ e3]
    refine ⟨⟨by simp [h.1], .inr ⟨g', cap, cur.setIfInBounds k u, e1, e2, setRow_heap _ _ _ _ _ _ e3, e4, e5, by simpa using e6, ?_⟩⟩, rfl, rfl, rfl, by simp, fun q hq hne => setRow_other _ _ _ _ (fun hh => hne (by rw [hh]))⟩
    rw [Array.toList_setIfInBounds, List.take_set, e7]
theorem own_at {w : World} {base n k : Nat} {e : TypeId} {A : Option Addr} {c : Nat} {xs : List Value} (h : w.ownsRow base e 1 (.slice A n c) n xs) (hk : k < n) :
    ∃ g x, A = some ⟨g, 0, none⟩ ∧ base ≤ g ∧ g < w.heap.size ∧ xs[k]? = some x ∧ w.cell? ⟨g, k, none⟩ = some x ∧ w.frozen? ⟨g, k, none⟩ = false := by
  rcases h.2 with ⟨e0, hn⟩ | ⟨g', cap, cur, e1, e2, e3, e4, e5, e6, e7⟩
  · cases e0; omega
  · cases e1
    have hlen : k < xs.length := by have := h.1; omega
    refine ⟨g', xs[k], rfl, e2, heap_lt e3, List.getElem?_eq_getElem hlen, ?_, by simp [World.frozen?, e3]⟩
    have hj : xs[k]? = some xs[k] := List.getElem?_eq_getElem hlen
    generalize hx : xs[k] = x at *
    rw [← e7, List.getElem?_take, if_pos (by omega)] at hj
    simp [World.cell?, e3]
    simpa using hj

theorem below_nx {w1 W wN : World} (hb : Below W.heap.size W wN) (h : Below w1.heap.size w1 W) : Below w1.heap.size w1 wN := h.trans (hb.mono h.size)
def U8s (xs : List Value) : Prop := ∀ u ∈ xs, ∃ x, u = .int .u8 x
theorem bv_u8 (bs : List UInt8) : U8s (bv bs) := fun u hu => by
  simp only [bv, List.mem_map] at hu
  obtain ⟨b, _, rfl⟩ := hu
  exact ⟨_, rfl⟩
theorem U8s.set {xs : List Value} (h : U8s xs) (k : Nat) (x : Int) : U8s (xs.set k (.int .u8 x)) := fun u hu => by
  rcases List.mem_or_eq_of_mem_set hu with hu | rfl
  · exact h u hu
  · exact ⟨x, rfl⟩

set_option maxHeartbeats 4000000 in
set_option maxRecDepth 100000 in
theorem gets_any (A : Option Addr) (n c : Nat) (bs : List UInt8) (w : World) (hn : bs.length = n) (hcp : n ≤ c) (hr : Reads w w.heap.size 1 A n (bv bs)) (ad : Nat → Addr) (hS : Sents w ad) (hT : TabAt w) :
    Calls Tryd.prog 7 #[.slice A n c] w fun e w' => e = .returned (.bool true) ∧ Below w.heap.size w w' := by
  obtain ⟨i0, hi0, hz0, hz1, hz2⟩ := info_parts Tryd.infoU8
  have HS := Lib.hid hS
  have HT := Lib.hid hT
  have HR := Lib.hid hr
  have HN := Lib.hid hn
  clear hS hT hr hn
  by_cases h3 : ¬ n ≤ 3000
  · have h3 : (3000 : Int) < n := by omega
    go_enter Tryd.func7, Tryd.ntmps7
    go_wp2_with fail
    refine (awake34 _ (ad 1) HS.out.s1 HT.out).mono ?_
    rintro e w2 ⟨rfl, hb2⟩
    have B2 := Lib.hid hb2
    clear hb2
    go_wp2_with fail
    go_ret
    exact ⟨rfl, B2.out⟩
  have h3 : n ≤ 3000 := by omega
  go_enter Tryd.func7, Tryd.ntmps7
  go_wp2_with (at_builtin; refine wpList_append_reads _ rfl (.tmp 13) (.tmp 14) _ rfl w.heap.size 5 i0 _ 1 1 Tryd.underlying24 hi0 hz0 hz1 hz2 rfl (by decide) (.slice (some ⟨w.heap.size, 0, none⟩) 0 0) 0 [] rfl (World.ownsRow_made w #[] 0 (Nat.le_refl _) (by decide) rfl) w.heap.size A n c (bv bs) rfl (HR.out.alloc (Nat.le_refl _) _) (bv_one bs) (by unfold maxLen; omega) (by omega) (by simp) ?_; intro v1 w1 hown1 hg1 hat1)
  have hB1 : Below w.heap.size w w1 := ((Below.refl _ _).alloc (Nat.le_refl _) _).grown hg1 (by simp) (by simp [Value.ownBlock])
  obtain ⟨A1, c1, rfl, hr1⟩ := own_slice hown1
  simp only [Nat.zero_add, List.nil_append] at hown1 hr1 ⊢
  have hc1 := (own_cap hown1).1
  have HO := Lib.hid hown1
  have R1 := Lib.hid hr1
  have B1 := Lib.hid hB1
  have S1 := Lib.hid (HS.out.below hB1)
  have T1 := Lib.hid (HT.out.below hB1)
  clear hown1 hB1 hg1 hat1 hr1
  go_wp2_with fail
  refine (get_any A1 n c1 bs _ HN.out R1.out hc1 (by omega) (ad 1) S1.out.s1 T1.out).mono ?_
  rintro e w3 ⟨ua, uv, um, ut, r2, E3, rfl, hb3, ho3, hk3⟩
  have K3b : E3 = .nilIface ∨ ∃ pb, E3 = .iface 174 (.pointer (some ⟨pb, 0, none⟩)) ∧ w1.heap.size ≤ pb := by
    rcases hk3 with ⟨_, h⟩ | ⟨_, _, _, h⟩
    · exact .inl h
    · exact .inr h
  obtain ⟨D1, j1, eq1, _, _⟩ := ho3.inAt.act.form
  obtain ⟨D2, j2, eq2, _, _⟩ := ho3.inAt.vars.form
  obtain ⟨D3, j3, eq3, _, _⟩ := ho3.inAt.mem.form
  obtain ⟨D4, j4, eq4, _, _⟩ := ho3.inAt.tms.form
  subst eq1 eq2 eq3 eq4
  have O3 := Lib.hid ho3
  have B3 := Lib.hid (B1.out.trans (hb3.mono B1.out.size))
  have K3 := Lib.hid hk3
  have HO3 := Lib.hid (own_stay HO.out (fun b h1 h2 => hb3.block b h2))
  have hs13 := hb3.size
  clear hb3 ho3 hk3 S1 T1 R1
  go_wp2_with fail
  have N4 := Lib.hid (Whole.new w3 52 #[.int .i64 r2.chart, .int .i64 r2.born, .int .i64 r2.steps, .slice D1 r2.active.length j1, .slice D2 r2.vars.length j2, .slice D3 r2.mem.length j3, .slice D4 r2.timers.length j4, .bool r2.over])
  have hba := (Below.refl w3.heap.size w3).alloc (Nat.le_refl _) (.cells #[.int .i64 r2.chart, .int .i64 r2.born, .int .i64 r2.steps, .slice D1 r2.active.length j1, .slice D2 r2.vars.length j2, .slice D3 r2.mem.length j3, .slice D4 r2.timers.length j4, .bool r2.over] 52)
  have O4 := Lib.hid (O3.out.alloc (.cells #[.int .i64 r2.chart, .int .i64 r2.born, .int .i64 r2.steps, .slice D1 r2.active.length j1, .slice D2 r2.vars.length j2, .slice D3 r2.mem.length j3, .slice D4 r2.timers.length j4, .bool r2.over] 52))
  have B4 := Lib.hid (B3.out.trans (hba.mono B3.out.size))
  have HO4 := Lib.hid (own_stay HO3.out (fun b h1 h2 => hba.block b h2))
  have K4 := Lib.hid (show getR bs = some r2 ∧ E3 = .nilIface ∨ getR bs = none ∧ r2 = zeroRc ∧ ErrAt (w3.alloc (.cells #[.int .i64 r2.chart, .int .i64 r2.born, .int .i64 r2.steps, .slice D1 r2.active.length j1, .slice D2 r2.vars.length j2, .slice D3 r2.mem.length j3, .slice D4 r2.timers.length j4, .bool r2.over] 52)) (ad 1) 1 E3 from by
    rcases K3.out with h | ⟨h1, h2, h3, _⟩
    · exact .inl h
    · exact .inr ⟨h1, h2, h3.below hba⟩)
  have hz4 : w1.heap.size ≤ w3.heap.size := hs13
  clear hba HO3 O3 B3 K3
  generalize hw4 : w3.alloc (.cells #[.int .i64 r2.chart, .int .i64 r2.born, .int .i64 r2.steps, .slice D1 r2.active.length j1, .slice D2 r2.vars.length j2, .slice D3 r2.mem.length j3, .slice D4 r2.timers.length j4, .bool r2.over] 52) = w4 at *
  have hs4 : w3.heap.size < w4.heap.size := by rw [← hw4]; simp
  clear hw4
  have HG1 : Hid (∀ g, (Value.slice A1 n c1).ownBlock = some g → g < w1.heap.size) := Lib.hid fun g hg => (HO.out.lt g hg).2
  clear HO
  go_loopw [6] (fun v6 wl => ∃ k : Nat, k ≤ n ∧ v6 = .int .i64 k ∧ ∃ xs, wl.ownsRow w.heap.size 5 1 (.slice A1 n c1) n xs ∧ U8s xs ∧ Below w.heap.size w wl ∧ w4.grownBy wl (Value.slice A1 n c1).ownBlock) (fun i _ => n - (intOf i).toNat)
  case atStart => exact ⟨0, by omega, rfl, bv bs, HO4.out, bv_u8 bs, B4.out, World.grownBy.refl _ _⟩
  case round =>
    obtain ⟨k, hk, rfl, xs, hx, hu, hb, hg⟩ := hrel
    by_cases hlt : k < n
    · obtain ⟨g, x, eA, h1, h2, h3, h4, h5⟩ := own_at hx hlt
      subst eA
      obtain ⟨x, rfl⟩ := hu x (List.mem_of_getElem? h3)
      have HX := Lib.hid hx
      have HU := Lib.hid hu
      have HB := Lib.hid hb
      have HG := Lib.hid hg
      clear hx hu hb hg
      go_wp2_with fail
      go_round
      case rel => exact ⟨k + 1, by omega, by go_num, xs.set k _, (cell_put HX.out rfl).1, HU.out.set k _, HB.out.setCell (p := ⟨g, k, none⟩) h1 _, HG.out.trans (cell_put HX.out rfl).2⟩
      case measure => simp [intOf]; omega
    · obtain rfl : k = n := by omega
      have S5 := Lib.hid (HS.out.below hb)
      have T5 := Lib.hid (HT.out.below hb)
      have R5 := Lib.hid ((HR.out.below hb).wider hb.size)
      have O5 := Lib.hid (O4.out.stay fun b h1 h2 => hg.block b h2 fun e => by have := HG1.out b e.symm; omega)
      have N5 := Lib.hid (show Whole wr w3.heap.size 52 #[.int .i64 r2.chart, .int .i64 r2.born, .int .i64 r2.steps, .slice D1 r2.active.length j1, .slice D2 r2.vars.length j2, .slice D3 r2.mem.length j3, .slice D4 r2.timers.length j4, .bool r2.over] from (hg.block _ hs4 fun e => by have := HG1.out _ e.symm; omega).trans N4.out)
      have K5 := Lib.hid (show getR bs = some r2 ∧ E3 = .nilIface ∨ getR bs = none ∧ r2 = zeroRc ∧ ErrAt wr (ad 1) 1 E3 from by
        rcases K4.out with h | ⟨h1, h2, pb, po, E', q1, q2, q3, q4⟩
        · exact .inl h
        · refine .inr ⟨h1, h2, pb, po, E', q1, ?_, q3, S5.out.s1.2⟩
          rcases K3b with rfl | ⟨pb', e', hpb⟩
          · cases q1
          · rw [e'] at q1
            cases q1
            exact (hg.cell_far _ (cell_lt q2) fun e => absurd (HG1.out _ e.symm) (Nat.not_lt.2 hpb)).trans q2)
      have B5 := Lib.hid hb
      clear hx hu hb hg K4 K3b N4 O4 B4 HO4 B1 HG1
      go_wp2_with fail
      refine (cGet34 bs (by have := HN.out; omega) A k c _ HN.out hcp R5.out).mono ?_
      rintro e w6 ⟨hb6, hc6⟩
      have hs5 : w3.heap.size < wr.heap.size := N5.out.lt
      rcases hc6 with ⟨r6, fa, fv, fm, ft, hg6, rfl, hi6⟩ | ⟨hg6, rfl⟩
      · obtain ⟨rfl, rfl⟩ : r2 = r6 ∧ E3 = .nilIface := by
          rcases K5.out with ⟨h, h2⟩ | ⟨h, _⟩
          · rw [hg6] at h; exact ⟨(Option.some.inj h).symm, h2⟩
          · rw [hg6] at h; cases h
        obtain ⟨F1, m1, F2, m2, F3, m3, F4, m4, rfl, rfl, rfl, rfl⟩ := rec_forms hi6
        have hba := (Below.refl w6.heap.size w6).alloc (Nat.le_refl _) (.cells #[.int .i64 r2.chart, .int .i64 r2.born, .int .i64 r2.steps, .slice F1 r2.active.length m1, .slice F2 r2.vars.length m2, .slice F3 r2.mem.length m3, .slice F4 r2.timers.length m4, .bool r2.over] 58)
        have J6 := Lib.hid ((O5.out.inAt.below hb6).below hba)
        have Q6 := Lib.hid (hi6.below hba)
        have S6 := Lib.hid ((S5.out.below hb6).below hba)
        have T6 := Lib.hid ((T5.out.below hb6).below hba)
        have N6 := Lib.hid ((N5.out.below hb6 N5.out.lt).alloc (.cells #[.int .i64 r2.chart, .int .i64 r2.born, .int .i64 r2.steps, .slice F1 r2.active.length m1, .slice F2 r2.vars.length m2, .slice F3 r2.mem.length m3, .slice F4 r2.timers.length m4, .bool r2.over] 58))
        have P6 := Lib.hid (Whole.new w6 58 #[.int .i64 r2.chart, .int .i64 r2.born, .int .i64 r2.steps, .slice F1 r2.active.length m1, .slice F2 r2.vars.length m2, .slice F3 r2.mem.length m3, .slice F4 r2.timers.length m4, .bool r2.over])
        have B6 := Lib.hid ((B5.out.trans (hb6.mono B5.out.size)).trans (hba.mono (by have := B5.out.size; have := hb6.size; omega)))
        have hs6 := hb6.size
        clear hb6 hi6 hba hg6 S5 T5 N5 B5 R5 O5 K5
        go_upto_region 12 with (fail)
        have FA : Hid (∀ W', Below (w6.alloc (.cells #[.int .i64 r2.chart, .int .i64 r2.born, .int .i64 r2.steps, .slice F1 r2.active.length m1, .slice F2 r2.vars.length m2, .slice F3 r2.mem.length m3, .slice F4 r2.timers.length m4, .bool r2.over] 58)).heap.size (w6.alloc (.cells #[.int .i64 r2.chart, .int .i64 r2.born, .int .i64 r2.steps, .slice F1 r2.active.length m1, .slice F2 r2.vars.length m2, .slice F3 r2.mem.length m3, .slice F4 r2.timers.length m4, .bool r2.over] 58)) W' → InAt W' W'.heap.size (.slice D1 r2.active.length j1) (.slice D2 r2.vars.length j2) (.slice D3 r2.mem.length j3) (.slice D4 r2.timers.length j4) r2 ∧ InAt W' W'.heap.size (.slice F1 r2.active.length m1) (.slice F2 r2.vars.length m2) (.slice F3 r2.mem.length m3) (.slice F4 r2.timers.length m4) r2 ∧ Sent W' 0 (ad 1) ∧ TabAt W' ∧ Below w.heap.size w W' ∧ Whole W' w3.heap.size 52 #[.int .i64 r2.chart, .int .i64 r2.born, .int .i64 r2.steps, .slice D1 r2.active.length j1, .slice D2 r2.vars.length j2, .slice D3 r2.mem.length j3, .slice D4 r2.timers.length j4, .bool r2.over] ∧ Whole W' w6.heap.size 58 #[.int .i64 r2.chart, .int .i64 r2.born, .int .i64 r2.steps, .slice F1 r2.active.length m1, .slice F2 r2.vars.length m2, .slice F3 r2.mem.length m3, .slice F4 r2.timers.length m4, .bool r2.over]) := Lib.hid (fun W' hw => ⟨J6.out.below hw, Q6.out.below hw, S6.out.s1.below hw, T6.out.below hw, B6.out.trans (hw.mono (by have := B6.out.size; exact this)), N6.out.below hw N6.out.lt, P6.out.below hw P6.out.lt⟩)
        clear J6 Q6 S6 T6 N6 P6 B6
        generalize w6.alloc (.cells #[.int .i64 r2.chart, .int .i64 r2.born, .int .i64 r2.steps, .slice F1 r2.active.length m1, .slice F2 r2.vars.length m2, .slice F3 r2.mem.length m3, .slice F4 r2.timers.length m4, .bool r2.over] 58) = w7 at *
        have HSB : Hid (∀ w', Below w7.heap.size w7 w' → (w'.cell? ⟨w3.heap.size, 0, none⟩ = some (.int .i64 r2.chart) ∧ w'.cell? ⟨w3.heap.size, 1, none⟩ = some (.int .i64 r2.born) ∧ w'.cell? ⟨w3.heap.size, 2, none⟩ = some (.int .i64 r2.steps) ∧ w'.cell? ⟨w3.heap.size, 3, none⟩ = some (.slice D1 r2.active.length j1) ∧ w'.cell? ⟨w3.heap.size, 4, none⟩ = some (.slice D2 r2.vars.length j2) ∧ w'.cell? ⟨w3.heap.size, 5, none⟩ = some (.slice D3 r2.mem.length j3) ∧ w'.cell? ⟨w3.heap.size, 6, none⟩ = some (.slice D4 r2.timers.length j4) ∧ w'.cell? ⟨w3.heap.size, 7, none⟩ = some (.bool r2.over) ∧ w'.cell? ⟨w6.heap.size, 0, none⟩ = some (.int .i64 r2.chart) ∧ w'.cell? ⟨w6.heap.size, 1, none⟩ = some (.int .i64 r2.born) ∧ w'.cell? ⟨w6.heap.size, 2, none⟩ = some (.int .i64 r2.steps) ∧ w'.cell? ⟨w6.heap.size, 3, none⟩ = some (.slice F1 r2.active.length m1) ∧ w'.cell? ⟨w6.heap.size, 4, none⟩ = some (.slice F2 r2.vars.length m2) ∧ w'.cell? ⟨w6.heap.size, 5, none⟩ = some (.slice F3 r2.mem.length m3) ∧ w'.cell? ⟨w6.heap.size, 6, none⟩ = some (.slice F4 r2.timers.length m4) ∧ w'.cell? ⟨w6.heap.size, 7, none⟩ = some (.bool r2.over))) := Lib.hid (fun w' hw' => by
          obtain ⟨_, _, _, _, _, f1, f2⟩ := FA.out w' hw'
          obtain ⟨a0, a1, a2, a3, a4, a5, a6, a7⟩ := c8 f1
          exact ⟨a0, a1, a2, a3, a4, a5, a6, a7, c8 f2⟩)
        have hbD : Below w7.heap.size w7 w7.drew := (Below.refl _ _).drew
        go_cut [2] (fun v2 W => v2 = .bool true ∧ Below w7.heap.size w7 W)
        case first =>
          go_region_held3 (fun w' => w'.cell? ⟨w3.heap.size, 0, none⟩ = some (.int .i64 r2.chart) ∧ w'.cell? ⟨w3.heap.size, 1, none⟩ = some (.int .i64 r2.born) ∧ w'.cell? ⟨w3.heap.size, 2, none⟩ = some (.int .i64 r2.steps) ∧ w'.cell? ⟨w3.heap.size, 3, none⟩ = some (.slice D1 r2.active.length j1) ∧ w'.cell? ⟨w3.heap.size, 4, none⟩ = some (.slice D2 r2.vars.length j2) ∧ w'.cell? ⟨w3.heap.size, 5, none⟩ = some (.slice D3 r2.mem.length j3) ∧ w'.cell? ⟨w3.heap.size, 6, none⟩ = some (.slice D4 r2.timers.length j4) ∧ w'.cell? ⟨w3.heap.size, 7, none⟩ = some (.bool r2.over) ∧ w'.cell? ⟨w6.heap.size, 0, none⟩ = some (.int .i64 r2.chart) ∧ w'.cell? ⟨w6.heap.size, 1, none⟩ = some (.int .i64 r2.born) ∧ w'.cell? ⟨w6.heap.size, 2, none⟩ = some (.int .i64 r2.steps) ∧ w'.cell? ⟨w6.heap.size, 3, none⟩ = some (.slice F1 r2.active.length m1) ∧ w'.cell? ⟨w6.heap.size, 4, none⟩ = some (.slice F2 r2.vars.length m2) ∧ w'.cell? ⟨w6.heap.size, 5, none⟩ = some (.slice F3 r2.mem.length m3) ∧ w'.cell? ⟨w6.heap.size, 6, none⟩ = some (.slice F4 r2.timers.length m4) ∧ w'.cell? ⟨w6.heap.size, 7, none⟩ = some (.bool r2.over)) (exact HSB.out _ (by assumption))
            (first
              | (go_at_call 34; (with_reducible refine (of_any r2 (.slice D1 r2.active.length j1) (.slice D2 r2.vars.length j2) (.slice D3 r2.mem.length j3) (.slice D4 r2.timers.length j4) _ (FA.out _ ?_).1).mono ?_); (focus assumption); rintro e wn ⟨rfl, hbn⟩; have hbN := below_nx hbn (by assumption); clear hbn)
              | (go_at_call 33; (with_reducible refine (rSame_any r2 r2 _ _ _ _ _ _ _ _ _ (FA.out _ ?_).1 (FA.out _ ?_).2.1).mono ?_); (focus assumption); (focus assumption); rintro e wn ⟨rfl, hbn⟩; have hbN := below_nx hbn (by assumption); clear hbn; rw [sameRc_self])
              | (go_at_call 30; (with_reducible refine (awake34 _ (ad 1) (FA.out _ ?_).2.2.1 (FA.out _ ?_).2.2.2.1).mono ?_); (focus assumption); (focus assumption); rintro e wn ⟨rfl, hbn⟩; have hbN := below_nx hbn (by assumption); clear hbn))
          all_goals
            go_wp2_with fail
            go_meet
            exact ⟨rfl, by assumption⟩
        case rest =>
          obtain ⟨rfl, hF⟩ := hcut
          have HF := Lib.hid (FA.out _ hF).2.2.2.2.1
          clear hF
          go_wp2_with fail
          go_ret
          exact ⟨rfl, HF.out⟩
      · obtain ⟨rfl, hE⟩ : r2 = zeroRc ∧ ErrAt wr (ad 1) 1 E3 := by
          rcases K5.out with ⟨h, _⟩ | ⟨_, h⟩
          · rw [hg6] at h; cases h
          · exact h
        obtain ⟨te, ve, rfl⟩ := hE.form
        have hba := (Below.refl w6.heap.size w6).alloc (Nat.le_refl _) (.cells #[.int .i64 0, .int .i64 0, .int .i64 0, .slice none 0 0, .slice none 0 0, .slice none 0 0, .slice none 0 0, .bool false] 58)
        have E6 := Lib.hid ((hE.below hb6).below hba)
        have S6 := Lib.hid ((S5.out.below hb6).below hba)
        have T6 := Lib.hid ((T5.out.below hb6).below hba)
        have N6 := Lib.hid ((N5.out.below hb6 N5.out.lt).alloc (.cells #[.int .i64 0, .int .i64 0, .int .i64 0, .slice none 0 0, .slice none 0 0, .slice none 0 0, .slice none 0 0, .bool false] 58))
        have B6 := Lib.hid ((B5.out.trans (hb6.mono B5.out.size)).trans (hba.mono (by have := B5.out.size; have := hb6.size; omega)))
        clear hb6 hba hg6 hE S5 T5 N5 B5 R5 O5 K5
        obtain ⟨x0, x1, x2, x3, x4, x5, x6, x7⟩ := c8 N6.out
        go_wp2_with fail
        refine (tells34_err S6.out 1 ⟨Nat.le_refl _, by omega⟩ 1 _ E6.out 1 rfl).mono ?_
        rintro e w8 ⟨rfl, rfl⟩
        go_wp2_with fail
        refine (awake34 _ (ad 1) S6.out.s1 T6.out).mono ?_
        rintro e w8 ⟨rfl, hb8⟩
        have B8 := Lib.hid (B6.out.trans (hb8.mono B6.out.size))
        clear hb8
        go_wp2_with fail
        go_ret
        exact ⟨rfl, B8.out⟩
end Go.Proofs.YtbleibmjippmpaaDoor
