/- fault.Page of an error with a page. -/
import Derived.Test.YtaonccobohiiiaaDoorE2
import Derived.Test.YtaonccobohiiiaaDoorE1
namespace Go.Proofs.YtaonccobohiiiaaDoor
open Go.RowKit

/-- What errors.errorType holds. -/
abbrev errT : Value := .iface 105 (.agg #[.pointer (some ⟨3, 48, none⟩)])
theorem as_found (e t : Addr) (old : Value) (w : World) (hg : w.cell? ⟨2, 0, none⟩ = some errT) (ht0 : w.cell? t = some old) (hf0 : w.frozen? t = false) (hs : t.spot = none) :
    Calls Tryd.prog 39 #[.iface 70 (.pointer (some e)), .iface 72 (.pointer (some t))] w fun ev w' => ev = .returned (.bool true) ∧ w'.cell? t = some (.pointer (some e)) ∧ Below t.block w w' := by
  refine (as_hit e t old w hg ht0 hf0).mono ?_
  rintro ev w' ⟨rfl, rfl⟩
  have hlt : t.block < w.heap.size := by
    obtain ⟨b, o, sp⟩ := t
    cases hs
    exact cell_lt ht0
  refine ⟨rfl, ?_, ?_⟩
  · refine World.cell?_setCell_same (u := old) _ _ _ ?_
    rw [World.cell?_alloc_lt _ _ t (by simp; omega), World.cell?_alloc_lt _ _ t (by simp; omega), World.cell?_alloc_lt _ _ t (by simp; omega), World.cell?_alloc_lt _ _ t hlt, ht0]
  · exact (((((Below.refl _ _).alloc (by omega) _).alloc (by simp; omega) _).alloc (by simp; omega) _).alloc (by simp; omega) _).setCell (Nat.le_refl _) _

set_option maxHeartbeats 4000000 in
set_option maxRecDepth 100000 in
theorem page_at (pb po : Nat) (p : Int) (w : World) (hp : w.cell? ⟨pb, po + 1, none⟩ = some (.int .i64 p)) (h0 : 0 ≤ p) (hg : w.cell? ⟨2, 0, none⟩ = some errT) :
    Calls Tryd.prog 17 #[.iface 70 (.pointer (some ⟨pb, po, none⟩))] w fun e w' => e = .returned (.int .i64 p) ∧ Below w.heap.size w w' := by
  have hb0 := (Below.refl w.heap.size w).alloc (Nat.le_refl _) (.cells #[.pointer none] 70)
  have G0 := Lib.hid (cell_below hg hb0)
  have P0 := Lib.hid (cell_below hp hb0)
  have B0 := Lib.hid hb0
  have hpb := cell_lt hp
  try clear hb0 hg hp
  go_enter Tryd.func17, Tryd.ntmps17
  go_wp2_with fail
  refine wp_loop_rounds 1 ?_
  rw [rounds_succ]
  go_wp2_with fail
  refine (as_found ⟨pb, po, none⟩ ⟨w.heap.size, 0, none⟩ (.pointer none) _ G0.out (by simp) ((Whole.new w 70 #[.pointer none]).frozen 0) rfl).mono ?_
  rintro e w2 ⟨rfl, hc, hb⟩
  have hp2 : w2.cell? ⟨pb, po + 1, none⟩ = some (.int .i64 p) := (hb.cell (p := ⟨pb, po + 1, none⟩) hpb).trans P0.out
  have B2 := Lib.hid (B0.out.trans hb)
  try clear hb
  go_wp2_with fail
  go_ret
  exact ⟨rfl, B2.out⟩
theorem page_con (env : Env) (he : env 2 = some (.lit errT)) (p : Int) (h0 : 0 ≤ p) (e : AV) : Con Tryd.prog env 17 [errV p e] (I p) :=
  con_lit Tryd.call17 fun w S vs hE hl hv => by
    match vs, hl with
    | [v], _ =>
      obtain ⟨u, h1, _, _, h4⟩ := hE.env _ _ he
      rw [h4.lit_inv] at h1
      have hr := hv 0 v _ rfl rfl
      cases hr with
      | iface t v c h =>
        cases h with
        | ref sz es i off b o u hz hc hrv =>
          have h2 := (hc 0 1 (I p) rfl).2.1
          rw [(hrv 0 1 (I p) rfl).lit_inv] at h2
          have := page_at b (o + (0 * 3 + 0)) p w (by simpa using h2) h0 h1
          exact this
end Go.Proofs.YtaonccobohiiiaaDoor
