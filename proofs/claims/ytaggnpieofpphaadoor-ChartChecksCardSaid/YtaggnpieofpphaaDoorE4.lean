/- fault.Page of nil, of an error without a page. -/
import Derived.Test.YtaggnpieofpphaaDoorE3
namespace Go.Proofs.YtaggnpieofpphaaDoor
open Go.RowKit Go.Extern.Stop Go.Stop Go.Extern

theorem Tryd.typeOfS (v : Value) (w : World) : (ReflectliteType.typeOf #[.iface 160 v]).run Tryd.prog w = .ok (.iface 118 (.agg #[.pointer (some ⟨10, 160, none⟩)])) w := by kernel_rfl
theorem Tryd.assignS (w : World) : (ReflectliteType.relation "AssignableTo" ReflectliteType.assignableTo #[.agg #[.pointer (some ⟨10, 160, none⟩)], .iface 118 (.agg #[.pointer (some ⟨10, 74, none⟩)])]).run Tryd.prog w = .ok (.bool false) w := by kernel_rfl
theorem Tryd.noAsE (v : Value) (xT : TypeId) (w : World) : (Instr.typeAssert (.iface 160 v) xT 122 true).run Tryd.prog w = .ok (.tuple #[.nilIface, .bool false]) w := run_typeAssert_lacksB Tryd.underlying122 (by kernel_rfl) (by kernel_rfl) v xT w

theorem as_nil (t : Addr) (w : World) : Calls Tryd.prog 53 #[.nilIface, .iface 76 (.pointer (some t))] w fun ev w' => ev = .returned (.bool false) ∧ w' = w := by
  go_enter Tryd.func53, Tryd.ntmps53
  go_wp2
  go_ret
  exact ⟨rfl, rfl⟩
set_option maxHeartbeats 4000000 in
set_option maxRecDepth 100000 in
theorem page_nil (w : World) : Calls Tryd.prog 19 #[.nilIface] w fun e w' => e = .returned (.int .i64 (-1)) ∧ Below w.heap.size w w' := by
  go_enter Tryd.func19, Tryd.ntmps19
  go_wp2_with fail
  refine wp_loop_rounds 1 ?_
  rw [rounds_succ]
  go_wp2_with fail
  refine (as_nil _ _).mono ?_
  rintro e w2 ⟨rfl, rfl⟩
  go_wp2_with fail
  go_ret
  exact ⟨rfl, (Below.refl _ _).alloc (Nat.le_refl _) _⟩
set_option maxHeartbeats 4000000 in
set_option maxRecDepth 100000 in
theorem as_miss (e t : Addr) (w : World) (hg : w.cell? ⟨9, 0, none⟩ = some errT) :
    Calls Tryd.prog 53 #[.iface 160 (.pointer (some e)), .iface 76 (.pointer (some t))] w fun ev w' => ev = .returned (.bool false) ∧ w' = ((w.alloc (.cells #[.pointer (some t)] 76)).alloc (.cells #[.pointer (some ⟨10, 76, none⟩), .pointer (some ⟨w.heap.size, 0, none⟩), .int .u64 150] 101)).alloc (.cells #[.pointer (some ⟨10, 76, none⟩), .pointer (some ⟨w.heap.size, 0, none⟩), .int .u64 150] 101) := by
  have h6 := @run_callFunc_extern Tryd.prog 83 _ (fun args => ReflectliteValue.unpack (args.getD 0 (.tuple #[]))) Tryd.func83 (by kernel_rfl) (by kernel_rfl) (by kernel_rfl) (by kernel_rfl)
  have h7 := @run_callFunc_extern Tryd.prog 84 _ (ReflectliteValue.methodAny (ReflectliteValue.valueError "reflectlite.Value.Type" 0) (fun t _ _ _ => ReflectliteType.toType t)) Tryd.func84 (by kernel_rfl) (by kernel_rfl) (by kernel_rfl) (by kernel_rfl)
  have h8 := @run_callFunc_extern Tryd.prog 85 _ (ReflectliteValue.method (ReflectliteValue.valueError "reflectlite.Value.IsNil" 0) ReflectliteValue.isNil) Tryd.func85 (by kernel_rfl) (by kernel_rfl) (by kernel_rfl) (by kernel_rfl)
  have h27 := @run_callFunc_extern Tryd.prog 140 _ (ReflectliteType.abiMethod fun t => do pure (.int .u8 (← Rtype.kind t))) Tryd.func140 (by kernel_rfl) (by kernel_rfl) (by kernel_rfl) (by kernel_rfl)
  have h37 := @run_callFunc_extern Tryd.prog 151 _ (ReflectliteType.method ReflectliteType.elem) Tryd.func151 (by kernel_rfl) (by kernel_rfl) (by kernel_rfl) (by kernel_rfl)
  have h38 := @run_callFunc_extern Tryd.prog 152 _ (ReflectliteType.relation "Implements" ReflectliteType.implements_) Tryd.func152 (by kernel_rfl) (by kernel_rfl) (by kernel_rfl) (by kernel_rfl)
  have h10 := @run_callFunc_extern Tryd.prog 97 _ ReflectliteType.typeOf Tryd.func97 (by kernel_rfl) (by kernel_rfl) (by kernel_rfl) (by kernel_rfl)
  have h35 := @run_callFunc_extern Tryd.prog 149 _ (ReflectliteType.relation "AssignableTo" ReflectliteType.assignableTo) Tryd.func149 (by kernel_rfl) (by kernel_rfl) (by kernel_rfl) (by kernel_rfl)
  have tO := Tryd.typeOfS
  have mA := Tryd.asmethodAssignableTo
  have a25 := Tryd.assignS
  have f6 := Tryd.asvalueOf27
  have f7 := Tryd.astype27
  have mK := Tryd.asmethodKind
  have mE := Tryd.asmethodElem
  have mI := Tryd.asmethodImplements
  have k27 := Tryd.askind27
  have k25 := Tryd.askind25
  have e27 := Tryd.aselem27
  have i25 := Tryd.asimplements25
  have aE := Tryd.noAsE
  have uE := Tryd.noUnwrapE
  have vE := Tryd.noUnwrapsE
  have n8 := Tryd.asisNil27 ⟨w.heap.size, 0, none⟩ t ((w.alloc (.cells #[.pointer (some t)] 76)).alloc (.cells #[.pointer (some ⟨10, 76, none⟩), .pointer (some ⟨w.heap.size, 0, none⟩), .int .u64 150] 101)) (by simp)
  have hlt : 9 < w.heap.size := cell_lt hg
  have hg2 : ((w.alloc (.cells #[.pointer (some t)] 76)).alloc (.cells #[.pointer (some ⟨10, 76, none⟩), .pointer (some ⟨w.heap.size, 0, none⟩), .int .u64 150] 101)).cell? ⟨9, 0, none⟩ = some (.iface 118 (.agg #[.pointer (some ⟨10, 29, none⟩)])) := by
    rw [World.cell?_alloc_lt _ _ ⟨9, 0, none⟩ (by simp; omega), World.cell?_alloc_lt _ _ ⟨9, 0, none⟩ hlt]; exact hg
  go_enter Tryd.func53, Tryd.ntmps53
  go_wp2
  refine wp_loop_rounds 1 ?_
  rw [rounds_succ]
  go_wp2
  go_ret
  exact ⟨rfl, rfl⟩

set_option maxHeartbeats 4000000 in
set_option maxRecDepth 100000 in
theorem page_neg (pb po : Nat) (p : Int) (a : Addr) (w : World) (hp : w.cell? ⟨pb, po + 1, none⟩ = some (.int .i64 p)) (hs : w.cell? ⟨pb, po + 2, none⟩ = some (.iface 160 (.pointer (some a)))) (h0 : p < 0) (hg : w.cell? ⟨9, 0, none⟩ = some errT) :
    Calls Tryd.prog 19 #[.iface 74 (.pointer (some ⟨pb, po, none⟩))] w fun e w' => e = .returned (.int .i64 (-1)) ∧ Below w.heap.size w w' := by
  have hb0 := (Below.refl w.heap.size w).alloc (Nat.le_refl _) (.cells #[.pointer none] 74)
  have G0 := Lib.hid (cell_below hg hb0)
  have P0 := Lib.hid (cell_below hp hb0)
  have S0 := Lib.hid (cell_below hs hb0)
  have B0 := Lib.hid hb0
  have hpb := cell_lt hp
  have hgb := cell_lt hg
  have h0' : ¬ 0 ≤ p := by omega
  clear hb0 hg hp hs
  go_enter Tryd.func19, Tryd.ntmps19
  go_wp2_with fail
  refine wp_loop_rounds 2 ?_
  rw [rounds_succ]
  go_wp2_with fail
  refine (as_found ⟨pb, po, none⟩ ⟨w.heap.size, 0, none⟩ (.pointer none) _ G0.out (by simp) ((Whole.new w 74 #[.pointer none]).frozen 0) rfl).mono ?_
  rintro e w2 ⟨rfl, hc, hb⟩
  have hp2 : w2.cell? ⟨pb, po + 1, none⟩ = some (.int .i64 p) := (hb.cell (p := ⟨pb, po + 1, none⟩) hpb).trans P0.out
  have hs2 : w2.cell? ⟨pb, po + 2, none⟩ = some (.iface 160 (.pointer (some a))) := (hb.cell (p := ⟨pb, po + 2, none⟩) hpb).trans S0.out
  have hg2 : w2.cell? ⟨9, 0, none⟩ = some errT := (hb.cell (p := ⟨9, 0, none⟩) hgb).trans G0.out
  have B2 := Lib.hid (B0.out.trans hb)
  have G2 := Lib.hid hg2
  clear hb hg2
  go_wp2_with fail
  rw [rounds_succ]
  go_wp2_with fail
  refine (as_miss a ⟨w.heap.size, 0, none⟩ w2 G2.out).mono ?_
  rintro e w3 ⟨rfl, rfl⟩
  clear hc hp2 hs2
  go_wp2_with fail
  go_ret
  have hsz := B2.out.size
  exact ⟨rfl, ((B2.out.alloc hsz _).alloc (by simp; omega) _).alloc (by simp; omega) _⟩
end Go.Proofs.YtaggnpieofpphaaDoor
