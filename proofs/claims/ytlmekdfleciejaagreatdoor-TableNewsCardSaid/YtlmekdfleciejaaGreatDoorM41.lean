/- Errors in errors; checks of any states. -/
import Derived.Test.YtlmekdfleciejaaGreatDoorM19
import Derived.Test.YtlmekdfleciejaaGreatDoorM39
import Derived.Test.YtlmekdfleciejaaGreatDoorM8
import Derived.Test.YtlmekdfleciejaaGreatDoorM40
import Derived.Test.YtlmekdfleciejaaGreatDoorM31
import Derived.Test.YtlmekdfleciejaaGreatDoorM15
import Derived.Test.YtlmekdfleciejaaGreatDoorM30
import Derived.Shelf.Slices.In.SortNone
namespace Go.Proofs.YtlmekdfleciejaaGreatDoor
open Go.RowKit Go.Extern.Stop Go.Stop Go.Extern
theorem Tryz.typeOfS (v : Value) (w : World) : (ReflectliteType.typeOf #[.iface 261 v]).run Tryz.prog w = .ok (.iface 207 (.agg #[.pointer (some ⟨11, 261, none⟩)])) w := by kernel_rfl
theorem Tryz.assignS (w : World) : (ReflectliteType.relation "AssignableTo" ReflectliteType.assignableTo #[.agg #[.pointer (some ⟨11, 261, none⟩)], .iface 207 (.agg #[.pointer (some ⟨11, 120, none⟩)])]).run Tryz.prog w = .ok (.bool false) w := by kernel_rfl
theorem Tryz.noAsE (v : Value) (xT : TypeId) (w : World) : (Instr.typeAssert (.iface 261 v) xT 211 true).run Tryz.prog w = .ok (.tuple #[.nilIface, .bool false]) w := run_typeAssert_lacksB Tryz.underlying211 (by kernel_rfl) (by kernel_rfl) v xT w
set_option maxHeartbeats 4000000 in
set_option maxRecDepth 100000 in
theorem as_miss (e t : Addr) (w : World) (hg : w.cell? ⟨9, 0, none⟩ = some errT) :
    Calls Tryz.prog 98 #[.iface 261 (.pointer (some e)), .iface 122 (.pointer (some t))] w fun ev w' => ev = .returned (.bool false) ∧ w' = ((w.alloc (.cells #[.pointer (some t)] 122)).alloc (.cells #[.pointer (some ⟨11, 122, none⟩), .pointer (some ⟨w.heap.size, 0, none⟩), .int .u64 150] 173)).alloc (.cells #[.pointer (some ⟨11, 122, none⟩), .pointer (some ⟨w.heap.size, 0, none⟩), .int .u64 150] 173) := by
  have h6 := @run_callFunc_extern Tryz.prog 150 _ (fun args => ReflectliteValue.unpack (args.getD 0 (.tuple #[]))) Tryz.func150 (by kernel_rfl) (by kernel_rfl) (by kernel_rfl) (by kernel_rfl)
  have h7 := @run_callFunc_extern Tryz.prog 151 _ (ReflectliteValue.methodAny (ReflectliteValue.valueError "reflectlite.Value.Type" 0) (fun t _ _ _ => ReflectliteType.toType t)) Tryz.func151 (by kernel_rfl) (by kernel_rfl) (by kernel_rfl) (by kernel_rfl)
  have h8 := @run_callFunc_extern Tryz.prog 152 _ (ReflectliteValue.method (ReflectliteValue.valueError "reflectlite.Value.IsNil" 0) ReflectliteValue.isNil) Tryz.func152 (by kernel_rfl) (by kernel_rfl) (by kernel_rfl) (by kernel_rfl)
  have h27 := @run_callFunc_extern Tryz.prog 268 _ (ReflectliteType.abiMethod fun t => do pure (.int .u8 (← Rtype.kind t))) Tryz.func268 (by kernel_rfl) (by kernel_rfl) (by kernel_rfl) (by kernel_rfl)
  have h37 := @run_callFunc_extern Tryz.prog 279 _ (ReflectliteType.method ReflectliteType.elem) Tryz.func279 (by kernel_rfl) (by kernel_rfl) (by kernel_rfl) (by kernel_rfl)
  have h38 := @run_callFunc_extern Tryz.prog 280 _ (ReflectliteType.relation "Implements" ReflectliteType.implements_) Tryz.func280 (by kernel_rfl) (by kernel_rfl) (by kernel_rfl) (by kernel_rfl)
  have h10 := @run_callFunc_extern Tryz.prog 188 _ ReflectliteType.typeOf Tryz.func188 (by kernel_rfl) (by kernel_rfl) (by kernel_rfl) (by kernel_rfl)
  have h35 := @run_callFunc_extern Tryz.prog 277 _ (ReflectliteType.relation "AssignableTo" ReflectliteType.assignableTo) Tryz.func277 (by kernel_rfl) (by kernel_rfl) (by kernel_rfl) (by kernel_rfl)
  have tO := Tryz.typeOfS
  have mA := Tryz.asmethodAssignableTo
  have a25 := Tryz.assignS
  have f6 := Tryz.asvalueOf27
  have f7 := Tryz.astype27
  have mK := Tryz.asmethodKind
  have mE := Tryz.asmethodElem
  have mI := Tryz.asmethodImplements
  have k27 := Tryz.askind27
  have k25 := Tryz.askind25
  have e27 := Tryz.aselem27
  have i25 := Tryz.asimplements25
  have aE := Tryz.noAsE
  have uE := Tryz.noUnwrapE
  have vE := Tryz.noUnwrapsE
  have n8 := Tryz.asisNil27 ⟨w.heap.size, 0, none⟩ t ((w.alloc (.cells #[.pointer (some t)] 122)).alloc (.cells #[.pointer (some ⟨11, 122, none⟩), .pointer (some ⟨w.heap.size, 0, none⟩), .int .u64 150] 173)) (by simp)
  have hlt : 9 < w.heap.size := cell_lt hg
  have hg2 : ((w.alloc (.cells #[.pointer (some t)] 122)).alloc (.cells #[.pointer (some ⟨11, 122, none⟩), .pointer (some ⟨w.heap.size, 0, none⟩), .int .u64 150] 173)).cell? ⟨9, 0, none⟩ = some (.iface 207 (.agg #[.pointer (some ⟨11, 51, none⟩)])) := by
    rw [World.cell?_alloc_lt _ _ ⟨9, 0, none⟩ (by simp; omega), World.cell?_alloc_lt _ _ ⟨9, 0, none⟩ hlt]; exact hg
  go_enter Tryz.func98, Tryz.ntmps98
  go_wp2
  refine wp_loop_rounds 1 ?_
  rw [rounds_succ]
  go_wp2
  go_ret
  exact ⟨rfl, rfl⟩
end Go.Proofs.YtlmekdfleciejaaGreatDoor
namespace Go.Proofs.YtlmekdfleciejaaGreatDoor
open Go.RowKit
theorem as_found2 (e t : Addr) (old : Value) (w : World) (hg : w.cell? ⟨9, 0, none⟩ = some errT) (ht0 : w.cell? t = some old) (hf0 : w.frozen? t = false) (hs : t.spot = none) :
    Calls Tryz.prog 98 #[.iface 120 (.pointer (some e)), .iface 122 (.pointer (some t))] w fun ev w' => ev = .returned (.bool true) ∧ w'.cell? t = some (.pointer (some e)) ∧ w'.frozen? t = false ∧ Below t.block w w' := by
  refine (as_hit e t old w hg ht0 hf0).mono ?_
  rintro ev w' ⟨rfl, rfl⟩
  have hlt : t.block < w.heap.size := by
    obtain ⟨b, o, sp⟩ := t
    cases hs
    exact cell_lt ht0
  refine ⟨rfl, ?_, ?_, ?_⟩
  · refine World.cell?_setCell_same (u := old) _ _ _ ?_
    rw [World.cell?_alloc_lt _ _ t (by simp; omega), World.cell?_alloc_lt _ _ t (by simp; omega), World.cell?_alloc_lt _ _ t (by simp; omega), World.cell?_alloc_lt _ _ t hlt, ht0]
  · rw [World.frozen?_setCell, World.frozen?_alloc_old _ _ t (by simp; omega), World.frozen?_alloc_old _ _ t (by simp; omega), World.frozen?_alloc_old _ _ t (by simp; omega), World.frozen?_alloc_old _ _ t (Nat.ne_of_lt hlt)]
    exact hf0
  · exact (((((Below.refl _ _).alloc (by omega) _).alloc (by simp; omega) _).alloc (by simp; omega) _).alloc (by simp; omega) _).setCell (Nat.le_refl _) _
set_option maxHeartbeats 8000000 in
set_option maxRecDepth 100000 in
theorem page_ch3 (b0 o0 b1 o1 b2 o2 : Nat) (w : World) (q0 : Int) (n0 : q0 < 0) (hp0 : w.cell? ⟨b0, o0 + 1, none⟩ = some (.int .i64 q0)) (hs0 : w.cell? ⟨b0, o0 + 2, none⟩ = some (.iface 120 (.pointer (some ⟨b1, o1, none⟩)))) (q1 : Int) (n1 : q1 < 0) (hp1 : w.cell? ⟨b1, o1 + 1, none⟩ = some (.int .i64 q1)) (hs1 : w.cell? ⟨b1, o1 + 2, none⟩ = some (.iface 120 (.pointer (some ⟨b2, o2, none⟩)))) (p : Int) (h0 : 0 ≤ p) (hp2 : w.cell? ⟨b2, o2 + 1, none⟩ = some (.int .i64 p)) (hg : w.cell? ⟨9, 0, none⟩ = some errT) :
    Calls Tryz.prog 38 #[.iface 120 (.pointer (some ⟨b0, o0, none⟩))] w fun e w' => e = .returned (.int .i64 p) ∧ Below w.heap.size w w' := by
  have hb0 := (Below.refl w.heap.size w).alloc (Nat.le_refl _) (.cells #[.pointer none] 120)
  have G0 := Lib.hid (cell_below hg hb0)
  have P0 := Lib.hid (cell_below hp0 hb0)
  have l0 := cell_lt hp0
  have S0 := Lib.hid (cell_below hs0 hb0)
  have m0 := cell_lt hs0
  have P1 := Lib.hid (cell_below hp1 hb0)
  have l1 := cell_lt hp1
  have S1 := Lib.hid (cell_below hs1 hb0)
  have m1 := cell_lt hs1
  have P2 := Lib.hid (cell_below hp2 hb0)
  have l2 := cell_lt hp2
  have B0 := Lib.hid hb0
  have hgb := cell_lt hg
  have hwb : Whole (w.alloc (.cells #[.pointer none] 120)) w.heap.size 120 #[.pointer none] := Whole.new w 120 #[.pointer none]
  have n0' : ¬ 0 ≤ q0 := by omega
  have n1' : ¬ 0 ≤ q1 := by omega
  try clear hb0 hg hp0 hp1 hp2 hs0 hs1
  go_enter Tryz.func38, Tryz.ntmps38
  go_wp2_with fail
  refine wp_loop_rounds 3 ?_
  rw [rounds_succ]
  go_wp2_with fail
  refine (as_found2 ⟨b0, o0, none⟩ ⟨w.heap.size, 0, none⟩ (.pointer none) _ G0.out (by simp) (hwb.frozen 0) rfl).mono ?_
  rintro e w2 ⟨rfl, hc0, fz0, hb⟩
  have P0 := Lib.hid ((hb.cell (p := ⟨b0, o0 + 1, none⟩) l0).trans P0.out)
  have S0 := Lib.hid ((hb.cell (p := ⟨b0, o0 + 2, none⟩) m0).trans S0.out)
  have P1 := Lib.hid ((hb.cell (p := ⟨b1, o1 + 1, none⟩) l1).trans P1.out)
  have S1 := Lib.hid ((hb.cell (p := ⟨b1, o1 + 2, none⟩) m1).trans S1.out)
  have P2 := Lib.hid ((hb.cell (p := ⟨b2, o2 + 1, none⟩) l2).trans P2.out)
  have G1 := Lib.hid ((hb.cell (p := ⟨9, 0, none⟩) hgb).trans G0.out)
  have B1 := Lib.hid (B0.out.trans hb)
  have hp0 := P0.out
  have hs0 := S0.out
  try clear hb
  go_wp2_with fail
  try clear hp0 hs0
  rw [rounds_succ]
  go_wp2_with fail
  refine (as_found2 ⟨b1, o1, none⟩ ⟨w.heap.size, 0, none⟩ (.pointer (some ⟨b0, o0, none⟩)) w2 G1.out hc0 (fz0) rfl).mono ?_
  rintro e w3 ⟨rfl, hc1, fz1, hb⟩
  have P1 := Lib.hid ((hb.cell (p := ⟨b1, o1 + 1, none⟩) l1).trans P1.out)
  have S1 := Lib.hid ((hb.cell (p := ⟨b1, o1 + 2, none⟩) m1).trans S1.out)
  have P2 := Lib.hid ((hb.cell (p := ⟨b2, o2 + 1, none⟩) l2).trans P2.out)
  have G2 := Lib.hid ((hb.cell (p := ⟨9, 0, none⟩) hgb).trans G1.out)
  have B2 := Lib.hid (B1.out.trans hb)
  have hp1 := P1.out
  have hs1 := S1.out
  try clear hb
  go_wp2_with fail
  try clear hp1 hs1
  rw [rounds_succ]
  go_wp2_with fail
  refine (as_found2 ⟨b2, o2, none⟩ ⟨w.heap.size, 0, none⟩ (.pointer (some ⟨b1, o1, none⟩)) w3 G2.out hc1 (fz1) rfl).mono ?_
  rintro e w4 ⟨rfl, hc2, fz2, hb⟩
  have P2 := Lib.hid ((hb.cell (p := ⟨b2, o2 + 1, none⟩) l2).trans P2.out)
  have G3 := Lib.hid ((hb.cell (p := ⟨9, 0, none⟩) hgb).trans G2.out)
  have B3 := Lib.hid (B2.out.trans hb)
  have hp2 := P2.out
  try clear hb
  go_wp2_with fail
  try clear hp2
  go_ret
  exact ⟨rfl, B3.out⟩
set_option maxHeartbeats 8000000 in
set_option maxRecDepth 100000 in
theorem page_ch3n (b0 o0 b1 o1 b2 o2 : Nat) (w : World) (q0 : Int) (n0 : q0 < 0) (hp0 : w.cell? ⟨b0, o0 + 1, none⟩ = some (.int .i64 q0)) (hs0 : w.cell? ⟨b0, o0 + 2, none⟩ = some (.iface 120 (.pointer (some ⟨b1, o1, none⟩)))) (q1 : Int) (n1 : q1 < 0) (hp1 : w.cell? ⟨b1, o1 + 1, none⟩ = some (.int .i64 q1)) (hs1 : w.cell? ⟨b1, o1 + 2, none⟩ = some (.iface 120 (.pointer (some ⟨b2, o2, none⟩)))) (p : Int) (h0 : p < 0) (hp2 : w.cell? ⟨b2, o2 + 1, none⟩ = some (.int .i64 p)) (a : Addr) (hs2 : w.cell? ⟨b2, o2 + 2, none⟩ = some (.iface 261 (.pointer (some a)))) (hg : w.cell? ⟨9, 0, none⟩ = some errT) :
    Calls Tryz.prog 38 #[.iface 120 (.pointer (some ⟨b0, o0, none⟩))] w fun e w' => e = .returned (.int .i64 (-1)) ∧ Below w.heap.size w w' := by
  have hb0 := (Below.refl w.heap.size w).alloc (Nat.le_refl _) (.cells #[.pointer none] 120)
  have G0 := Lib.hid (cell_below hg hb0)
  have P0 := Lib.hid (cell_below hp0 hb0)
  have l0 := cell_lt hp0
  have S0 := Lib.hid (cell_below hs0 hb0)
  have m0 := cell_lt hs0
  have P1 := Lib.hid (cell_below hp1 hb0)
  have l1 := cell_lt hp1
  have S1 := Lib.hid (cell_below hs1 hb0)
  have m1 := cell_lt hs1
  have P2 := Lib.hid (cell_below hp2 hb0)
  have l2 := cell_lt hp2
  have S2 := Lib.hid (cell_below hs2 hb0)
  have m2 := cell_lt hs2
  have B0 := Lib.hid hb0
  have hgb := cell_lt hg
  have hwb : Whole (w.alloc (.cells #[.pointer none] 120)) w.heap.size 120 #[.pointer none] := Whole.new w 120 #[.pointer none]
  have n0' : ¬ 0 ≤ q0 := by omega
  have n1' : ¬ 0 ≤ q1 := by omega
  have h0' : ¬ 0 ≤ p := by omega
  try clear hb0 hg hp0 hp1 hp2 hs0 hs1 hs2
  go_enter Tryz.func38, Tryz.ntmps38
  go_wp2_with fail
  refine wp_loop_rounds 4 ?_
  rw [rounds_succ]
  go_wp2_with fail
  refine (as_found2 ⟨b0, o0, none⟩ ⟨w.heap.size, 0, none⟩ (.pointer none) _ G0.out (by simp) (hwb.frozen 0) rfl).mono ?_
  rintro e w2 ⟨rfl, hc0, fz0, hb⟩
  have P0 := Lib.hid ((hb.cell (p := ⟨b0, o0 + 1, none⟩) l0).trans P0.out)
  have S0 := Lib.hid ((hb.cell (p := ⟨b0, o0 + 2, none⟩) m0).trans S0.out)
  have P1 := Lib.hid ((hb.cell (p := ⟨b1, o1 + 1, none⟩) l1).trans P1.out)
  have S1 := Lib.hid ((hb.cell (p := ⟨b1, o1 + 2, none⟩) m1).trans S1.out)
  have P2 := Lib.hid ((hb.cell (p := ⟨b2, o2 + 1, none⟩) l2).trans P2.out)
  have S2 := Lib.hid ((hb.cell (p := ⟨b2, o2 + 2, none⟩) m2).trans S2.out)
  have G1 := Lib.hid ((hb.cell (p := ⟨9, 0, none⟩) hgb).trans G0.out)
  have B1 := Lib.hid (B0.out.trans hb)
  have hp0 := P0.out
  have hs0 := S0.out
  try clear hb
  go_wp2_with fail
  try clear hp0 hs0
  rw [rounds_succ]
  go_wp2_with fail
  refine (as_found2 ⟨b1, o1, none⟩ ⟨w.heap.size, 0, none⟩ (.pointer (some ⟨b0, o0, none⟩)) w2 G1.out hc0 (fz0) rfl).mono ?_
  rintro e w3 ⟨rfl, hc1, fz1, hb⟩
  have P1 := Lib.hid ((hb.cell (p := ⟨b1, o1 + 1, none⟩) l1).trans P1.out)
  have S1 := Lib.hid ((hb.cell (p := ⟨b1, o1 + 2, none⟩) m1).trans S1.out)
  have P2 := Lib.hid ((hb.cell (p := ⟨b2, o2 + 1, none⟩) l2).trans P2.out)
  have S2 := Lib.hid ((hb.cell (p := ⟨b2, o2 + 2, none⟩) m2).trans S2.out)
  have G2 := Lib.hid ((hb.cell (p := ⟨9, 0, none⟩) hgb).trans G1.out)
  have B2 := Lib.hid (B1.out.trans hb)
  have hp1 := P1.out
  have hs1 := S1.out
  try clear hb
  go_wp2_with fail
  try clear hp1 hs1
  rw [rounds_succ]
  go_wp2_with fail
  refine (as_found2 ⟨b2, o2, none⟩ ⟨w.heap.size, 0, none⟩ (.pointer (some ⟨b1, o1, none⟩)) w3 G2.out hc1 (fz1) rfl).mono ?_
  rintro e w4 ⟨rfl, hc2, fz2, hb⟩
  have P2 := Lib.hid ((hb.cell (p := ⟨b2, o2 + 1, none⟩) l2).trans P2.out)
  have S2 := Lib.hid ((hb.cell (p := ⟨b2, o2 + 2, none⟩) m2).trans S2.out)
  have G3 := Lib.hid ((hb.cell (p := ⟨9, 0, none⟩) hgb).trans G2.out)
  have B3 := Lib.hid (B2.out.trans hb)
  have hp2 := P2.out
  have hs2 := S2.out
  try clear hb
  go_wp2_with fail
  try clear hp2 hs2
  rw [rounds_succ]
  go_wp2_with fail
  refine (as_miss a ⟨w.heap.size, 0, none⟩ w4 G3.out).mono ?_
  rintro e w9 ⟨rfl, rfl⟩
  go_wp2_with fail
  go_ret
  have hsz := B3.out.size
  exact ⟨rfl, ((B3.out.alloc hsz _).alloc (by simp; omega) _).alloc (by simp; omega) _⟩
end Go.Proofs.YtlmekdfleciejaaGreatDoor
set_option linter.unusedSimpArgs false
namespace Go.Proofs.YtlmekdfleciejaaGreatDoor
open Go.RowKit
set_option maxRecDepth 100000
set_option maxHeartbeats 4000000
def lightTB (c : ChD) : Bool := decide ((c.states.length : Int) ≤ 40) && decide ((c.trans.length : Int) ≤ 70) && decide ((c.vars.length : Int) ≤ 10)
theorem light28_con (env : Env) (c : ChD) : Con Tryz.prog env 28 [.agg (chAV c)] (B (lightTB c)) := by
  unfold lightTB
  by_cases h1 : (c.states.length : Int) ≤ 40 <;> by_cases h2 : (c.trans.length : Int) ≤ 70 <;> by_cases h3 : (c.vars.length : Int) ≤ 10
  all_goals (refine con_of_body Tryz.func28 rfl Tryz.call28 (by rw [Tryz.ntmps28]; simp) ?_
             rw [Tryz.ntmps28, Tryz.results28])
  all_goals have F := And.intro chAV.eq_1 <| And.intro h1 <| And.intro h2 <| h3
  all_goals (repeat refine st ?_)
  all_goals ((refine awp_ret ?_; show (resRd _ _ _).run _ = some _; simp only [go_sem, F]))
def wakeD : ChD := ⟨[99], 0, [], [⟨[97], 1, -1, -1, [], []⟩], [⟨0, [120], [], [], -1⟩, ⟨0, [], [], [], 0⟩]⟩
def wakeAV : List AV := [Sg [99], I 0, nilS, .seq 6 [[Sg [97], I 1, I (-1), I (-1), nilS, nilS]], .seq 5 [[I 0, Sg [120], nilS, nilS, I (-1)], [I 0, Sg [], nilS, nilS, I 0]]]
theorem wake_str : Strs [.agg wakeAV] [.agg (chAV wakeD)] := by
  refine .one (.agg (.cons (.refl _) (.cons (.refl _) (.cons (.nil 2) (.cons (.seqs ?_) (.cons (.seqs ?_) .nil))))))
  · exact .cons (.cons (.refl _) (.cons (.refl _) (.cons (.refl _) (.cons (.refl _) (.cons (.nil 4) (.cons (.nil 4) .nil)))))) .nil
  · exact .cons (.cons (.refl _) (.cons (.refl _) (.cons (.nil 2) (.cons (.nil 4) (.cons (.refl _) .nil))))) (.cons (.cons (.refl _) (.cons (.refl _) (.cons (.nil 2) (.cons (.nil 4) (.cons (.refl _) .nil))))) .nil)
theorem wake_few : few_ch wakeD := by simp [few_ch, few_st, few_tr, wakeD, maxLen]
theorem wake_chk : chk wakeD = (0, -1) := by decide +kernel
theorem awake28_con (env : Env) (a1 a8 : Addr) (he : ChEnv env a1 a8) (hT : ∀ W, env.inv W → TabAt W) : Con Tryz.prog env 16 [] (B true) := by
  have f0 := (table_con env a1 a8 he hT wakeD wake_chk wake_few).args wake_str
  have f1 := tabEvent_con env wakeD (by decide) [120]
  have f2 := tabAt_con env wakeD (by decide) 0 0
  have f3 := tabAuto_con env wakeD (by decide) 0
  have f4 := tabTree_con env wakeD
  have f5 := tlen_con env wakeD
  rw [show evI wakeD [120] = 0 by decide +kernel] at f1
  rw [show tatL wakeD 0 0 = [0] by decide +kernel] at f2
  rw [show atL wakeD 0 (-1) = [1] by decide +kernel] at f3
  rw [show wakeD.states.length = 1 from rfl] at f5
  unfold wakeAV at f0
  unfold treeAV at f4 f5
  unfold tabAV at f0 f1 f2 f3 f4
  generalize tabCells wakeD = T at *
  refine con_of_body Tryz.func16 rfl Tryz.call16 (by rw [Tryz.ntmps16]; simp) ?_
  rw [Tryz.ntmps16, Tryz.results16]
  repeat (first | refine st0 ?_ | refine cC0 f0 ?_ | refine cC0 f1 ?_ | refine cC0 f2 ?_ | refine cC0 f3 ?_ | refine cC0 f4 ?_ | refine cC0 f5 ?_)
  exact aR0
end Go.Proofs.YtlmekdfleciejaaGreatDoor
set_option linter.unusedSimpArgs false
namespace Go.Proofs.YtlmekdfleciejaaGreatDoor
open Go.RowKit
set_option maxRecDepth 100000
set_option maxHeartbeats 4000000
end Go.Proofs.YtlmekdfleciejaaGreatDoor
namespace Go.Proofs.YtlmekdfleciejaaGreatDoor
open Go.RowKit
/-! The n-th ones -/
end Go.Proofs.YtlmekdfleciejaaGreatDoor
namespace Go.Proofs.YtlmekdfleciejaaGreatDoor
open Go.RowKit
/-! One more is none -/
end Go.Proofs.YtlmekdfleciejaaGreatDoor
namespace Go.Proofs.YtlmekdfleciejaaGreatDoor
open Go.RowKit Go.Sort Go.Shelf Go.Lib
/-! slices.Sort of ints -/
end Go.Proofs.YtlmekdfleciejaaGreatDoor
set_option linter.unusedSimpArgs false
namespace Go.Proofs.YtlmekdfleciejaaGreatDoor
open Go.RowKit
set_option maxRecDepth 100000
set_option maxHeartbeats 8000000
end Go.Proofs.YtlmekdfleciejaaGreatDoor
set_option linter.unusedSimpArgs false
namespace Go.Proofs.YtlmekdfleciejaaGreatDoor
open Go.RowKit
set_option maxRecDepth 100000
set_option maxHeartbeats 8000000
end Go.Proofs.YtlmekdfleciejaaGreatDoor
set_option linter.unusedSimpArgs false
namespace Go.Proofs.YtlmekdfleciejaaGreatDoor
open Go.RowKit
set_option maxRecDepth 100000
set_option maxHeartbeats 8000000
end Go.Proofs.YtlmekdfleciejaaGreatDoor
set_option linter.unusedSimpArgs false
namespace Go.Proofs.YtlmekdfleciejaaGreatDoor
open Go.RowKit
set_option maxRecDepth 100000
set_option maxHeartbeats 8000000
def chainV (ps : List Int) (e : AV) : AV := ps.foldr (fun p x => errV p x) e
theorem chain_at {S : Nat → Nat → Prop} {w : World} {a : Addr} (ha : Lies w a) : ∀ (ps : List Int) (v : Value), RV S w v (chainV ps (sentV a)) → ErrAt w a ps.length v
  | [], v, h => ⟨h.lit_inv, ha⟩
  | p :: ps, v, h => by
    have h : RV S w v (.iface 120 (.ref 3 [[.any, I p, chainV ps (sentV a)]] 0 0)) := h
    cases h with
    | iface t v c h =>
      cases h with
      | ref sz es i off b o u hz hc hr =>
        have h2 := hc 0 2 (chainV ps (sentV a)) rfl
        have h3 := hr 0 2 (chainV ps (sentV a)) rfl
        refine ⟨b, o + (0 * 3 + 0), u 0 2, rfl, ?_, chain_at ha ps _ h3⟩
        have := h2.2.1
        simpa using this
theorem wrap_con (env : Env) (s : List UInt8) (p : Int) (e : AV) : Con Tryz.prog env 88 [Sg s, errV p e] (errV (-1) (errV p e)) := by
  refine con_of_body_w Tryz.func88 rfl Tryz.call88 (by rw [Tryz.ntmps88]; simp) ?_
  rw [Tryz.ntmps88, Tryz.results88]
  repeat refine st0 ?_
  (refine awp_ret ?_; refine ⟨_, (by show (resRd _ _ _).run _ = some _; simp only [go_sem]; rfl), ?_⟩)
  exact errV_str2 _ _ _ rfl _ _ (.refl _)
end Go.Proofs.YtlmekdfleciejaaGreatDoor
