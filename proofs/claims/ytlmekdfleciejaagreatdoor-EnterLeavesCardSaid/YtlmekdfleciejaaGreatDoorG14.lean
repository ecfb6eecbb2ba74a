/- What TableNews's list of variables gives. -/
import Derived.Test.YtlmekdfleciejaaGreatDoorG1
import Derived.Test.YtlmekdfleciejaaGreatDoorM19
import Derived.Test.YtlmekdfleciejaaGreatDoorG7
import Derived.Test.YtlmekdfleciejaaGreatDoorG12
import Derived.Test.YtlmekdfleciejaaGreatDoorM8
import Derived.Test.YtlmekdfleciejaaGreatDoorG2
import Derived.Test.YtlmekdfleciejaaGreatDoorM31
import Derived.Test.YtlmekdfleciejaaGreatDoorG5
import Derived.Test.YtlmekdfleciejaaGreatDoorM6
import Derived.Test.YtlmekdfleciejaaGreatDoorM27
import Derived.Test.YtlmekdfleciejaaGreatDoorM38
import Derived.Test.YtlmekdfleciejaaGreatDoorM21
import Derived.Test.YtlmekdfleciejaaGreatDoorG11
namespace Go.Proofs.YtlmekdfleciejaaGreatDoor
open Go.RowKit Go.Extern.Stop Go.Stop Go.Extern
theorem Tryz.typeOfS (v : Value) (w : World) : (ReflectliteType.typeOf #[.iface 261 v]).run Tryz.prog w = .ok (.iface 207 (.agg #[.pointer (some ⟨11, 261, none⟩)])) w := by kernel_rfl
theorem Tryz.assignS (w : World) : (ReflectliteType.relation "AssignableTo" ReflectliteType.assignableTo #[.agg #[.pointer (some ⟨11, 261, none⟩)], .iface 207 (.agg #[.pointer (some ⟨11, 120, none⟩)])]).run Tryz.prog w = .ok (.bool false) w := by kernel_rfl
theorem Tryz.noAsE (v : Value) (xT : TypeId) (w : World) : (Instr.typeAssert (.iface 261 v) xT 211 true).run Tryz.prog w = .ok (.tuple #[.nilIface, .bool false]) w := run_typeAssert_lacksB Tryz.underlying211 (by kernel_rfl) (by kernel_rfl) v xT w
set_option maxHeartbeats 4000000 in
set_option maxRecDepth 100000 in
theorem as_miss (e t : Addr) (w : World) (hg : w.cell? ⟨9, 0, none⟩ = some errT) :
    Calls Tryz.prog 98 #[.iface 261 (.pointer (some e)), .iface 122 (.pointer (some t))] w fun ev w' => ev = .returned (.bool false) ∧ w' = ((w.alloc (.cells #[.pointer (some t)] 122)).alloc (.cells #[.pointer (some ⟨11, 122, none⟩), .pointer (some ⟨w.heap.size, 0, none⟩), .int .u64 150] 173)).alloc (.cells #[.pointer (some ⟨11, 122, none⟩), .pointer (some ⟨w.heap.size, 0, none⟩), .int .u64 150] 173) := by
  have h6 := @run_callFunc_extern Tryz.prog 150 _ (fun args => ReflectliteValue.unpack (args.getD 0 (.tuple #[]))) Tryz.func150 (by kernel_rfl) (by kernel_rfl) (by kernel_rfl) (by kernel_rfl)
  have h7 := @run_callFunc_extern Tryz.prog 151 _ (ReflectliteValue.methodAny (ReflectliteValue.valueError "reflectlite.Value.Type" 0) (fun t _ _ _ => ReflectliteType.toType t)) Tryz.func151 (by kernel_rfl) (by kernel_rfl) (by kernel_rfl) (by kernel_rfl)
  have h8 := @run_callFunc_extern Tryz.prog 152 _ (ReflectliteValue.method (ReflectliteValue.valueError "reflectlite.Value.IsNil" 0) ReflectliteValue.isNil) Tryz.func152 (by kernel_rfl) (by kernel_rfl) (by kernel_rfl) (by kernel_rfl)
  have h27 := @run_callFunc_extern Tryz.prog 268 _ (ReflectliteType.abiMethod fun t => do pure (.int .u8 (← Rtype.kind t))) Tryz.func268 (by kernel_rfl) (by kernel_rfl) (by kernel_rfl) (by kernel_rfl)
  have h37 := @run_callFunc_extern Tryz.prog 279 _ (ReflectliteType.method ReflectliteType.elem) Tryz.func279 (by kernel_rfl) (by kernel_rfl) (by kernel_rfl) (by kernel_rfl)
  have h38 := @run_callFunc_extern Tryz.prog 280 _ (ReflectliteType.relation "Implements" ReflectliteType.implements_) Tryz.func280 (by kernel_rfl) (by kernel_rfl) (by kernel_rfl) (by kernel_rfl)
  have h10 := @run_callFunc_extern Tryz.prog 188 _ ReflectliteType.typeOf Tryz.func188 (by kernel_rfl) (by kernel_rfl) (by kernel_rfl) (by kernel_rfl)
  have h35 := @run_callFunc_extern Tryz.prog 277 _ (ReflectliteType.relation "AssignableTo" ReflectliteType.assignableTo) Tryz.func277 (by kernel_rfl) (by kernel_rfl) (by kernel_rfl) (by kernel_rfl)
  have tO := Tryz.typeOfS
  have mA := Tryz.asmethodAssignableTo
  have a25 := Tryz.assignS
  have f6 := Tryz.asvalueOf27
  have f7 := Tryz.astype27
  have mK := Tryz.asmethodKind
  have mE := Tryz.asmethodElem
  have mI := Tryz.asmethodImplements
  have k27 := Tryz.askind27
  have k25 := Tryz.askind25
  have e27 := Tryz.aselem27
  have i25 := Tryz.asimplements25
  have aE := Tryz.noAsE
  have uE := Tryz.noUnwrapE
  have vE := Tryz.noUnwrapsE
  have n8 := Tryz.asisNil27 ⟨w.heap.size, 0, none⟩ t ((w.alloc (.cells #[.pointer (some t)] 122)).alloc (.cells #[.pointer (some ⟨11, 122, none⟩), .pointer (some ⟨w.heap.size, 0, none⟩), .int .u64 150] 173)) (by simp)
  have hlt : 9 < w.heap.size := cell_lt hg
  have hg2 : ((w.alloc (.cells #[.pointer (some t)] 122)).alloc (.cells #[.pointer (some ⟨11, 122, none⟩), .pointer (some ⟨w.heap.size, 0, none⟩), .int .u64 150] 173)).cell? ⟨9, 0, none⟩ = some (.iface 207 (.agg #[.pointer (some ⟨11, 51, none⟩)])) := by
    rw [World.cell?_alloc_lt _ _ ⟨9, 0, none⟩ (by simp; omega), World.cell?_alloc_lt _ _ ⟨9, 0, none⟩ hlt]; exact hg
  go_enter Tryz.func98, Tryz.ntmps98
  go_wp2
  refine wp_loop_rounds 1 ?_
  rw [rounds_succ]
  go_wp2
  go_ret
  exact ⟨rfl, rfl⟩
end Go.Proofs.YtlmekdfleciejaaGreatDoor
namespace Go.Proofs.YtlmekdfleciejaaGreatDoor
open Go.RowKit
theorem as_found2 (e t : Addr) (old : Value) (w : World) (hg : w.cell? ⟨9, 0, none⟩ = some errT) (ht0 : w.cell? t = some old) (hf0 : w.frozen? t = false) (hs : t.spot = none) :
    Calls Tryz.prog 98 #[.iface 120 (.pointer (some e)), .iface 122 (.pointer (some t))] w fun ev w' => ev = .returned (.bool true) ∧ w'.cell? t = some (.pointer (some e)) ∧ w'.frozen? t = false ∧ Below t.block w w' := by
  refine (as_hit e t old w hg ht0 hf0).mono ?_
  rintro ev w' ⟨rfl, rfl⟩
  have hlt : t.block < w.heap.size := by
    obtain ⟨b, o, sp⟩ := t
    cases hs
    exact cell_lt ht0
  refine ⟨rfl, ?_, ?_, ?_⟩
  · refine World.cell?_setCell_same (u := old) _ _ _ ?_
    rw [World.cell?_alloc_lt _ _ t (by simp; omega), World.cell?_alloc_lt _ _ t (by simp; omega), World.cell?_alloc_lt _ _ t (by simp; omega), World.cell?_alloc_lt _ _ t hlt, ht0]
  · rw [World.frozen?_setCell, World.frozen?_alloc_old _ _ t (by simp; omega), World.frozen?_alloc_old _ _ t (by simp; omega), World.frozen?_alloc_old _ _ t (by simp; omega), World.frozen?_alloc_old _ _ t (Nat.ne_of_lt hlt)]
    exact hf0
  · exact (((((Below.refl _ _).alloc (by omega) _).alloc (by simp; omega) _).alloc (by simp; omega) _).alloc (by simp; omega) _).setCell (Nat.le_refl _) _
set_option maxHeartbeats 8000000 in
set_option maxRecDepth 100000 in
theorem page_ch2 (b0 o0 b1 o1 : Nat) (w : World) (q0 : Int) (n0 : q0 < 0) (hp0 : w.cell? ⟨b0, o0 + 1, none⟩ = some (.int .i64 q0)) (hs0 : w.cell? ⟨b0, o0 + 2, none⟩ = some (.iface 120 (.pointer (some ⟨b1, o1, none⟩)))) (p : Int) (h0 : 0 ≤ p) (hp1 : w.cell? ⟨b1, o1 + 1, none⟩ = some (.int .i64 p)) (hg : w.cell? ⟨9, 0, none⟩ = some errT) :
    Calls Tryz.prog 38 #[.iface 120 (.pointer (some ⟨b0, o0, none⟩))] w fun e w' => e = .returned (.int .i64 p) ∧ Below w.heap.size w w' := by
  have hb0 := (Below.refl w.heap.size w).alloc (Nat.le_refl _) (.cells #[.pointer none] 120)
  have G0 := Lib.hid (cell_below hg hb0)
  have P0 := Lib.hid (cell_below hp0 hb0)
  have l0 := cell_lt hp0
  have S0 := Lib.hid (cell_below hs0 hb0)
  have m0 := cell_lt hs0
  have P1 := Lib.hid (cell_below hp1 hb0)
  have l1 := cell_lt hp1
  have B0 := Lib.hid hb0
  have hgb := cell_lt hg
  have hwb : Whole (w.alloc (.cells #[.pointer none] 120)) w.heap.size 120 #[.pointer none] := Whole.new w 120 #[.pointer none]
  have n0' : ¬ 0 ≤ q0 := by omega
  try clear hb0 hg hp0 hp1 hs0
  go_enter Tryz.func38, Tryz.ntmps38
  go_wp2_with fail
  refine wp_loop_rounds 2 ?_
  rw [rounds_succ]
  go_wp2_with fail
  refine (as_found2 ⟨b0, o0, none⟩ ⟨w.heap.size, 0, none⟩ (.pointer none) _ G0.out (by simp) (hwb.frozen 0) rfl).mono ?_
  rintro e w2 ⟨rfl, hc0, fz0, hb⟩
  have P0 := Lib.hid ((hb.cell (p := ⟨b0, o0 + 1, none⟩) l0).trans P0.out)
  have S0 := Lib.hid ((hb.cell (p := ⟨b0, o0 + 2, none⟩) m0).trans S0.out)
  have P1 := Lib.hid ((hb.cell (p := ⟨b1, o1 + 1, none⟩) l1).trans P1.out)
  have G1 := Lib.hid ((hb.cell (p := ⟨9, 0, none⟩) hgb).trans G0.out)
  have B1 := Lib.hid (B0.out.trans hb)
  have hp0 := P0.out
  have hs0 := S0.out
  try clear hb
  go_wp2_with fail
  try clear hp0 hs0
  rw [rounds_succ]
  go_wp2_with fail
  refine (as_found2 ⟨b1, o1, none⟩ ⟨w.heap.size, 0, none⟩ (.pointer (some ⟨b0, o0, none⟩)) w2 G1.out hc0 (fz0) rfl).mono ?_
  rintro e w3 ⟨rfl, hc1, fz1, hb⟩
  have P1 := Lib.hid ((hb.cell (p := ⟨b1, o1 + 1, none⟩) l1).trans P1.out)
  have G2 := Lib.hid ((hb.cell (p := ⟨9, 0, none⟩) hgb).trans G1.out)
  have B2 := Lib.hid (B1.out.trans hb)
  have hp1 := P1.out
  try clear hb
  go_wp2_with fail
  try clear hp1
  go_ret
  exact ⟨rfl, B2.out⟩
set_option maxHeartbeats 8000000 in
set_option maxRecDepth 100000 in
theorem page_ch2n (b0 o0 b1 o1 : Nat) (w : World) (q0 : Int) (n0 : q0 < 0) (hp0 : w.cell? ⟨b0, o0 + 1, none⟩ = some (.int .i64 q0)) (hs0 : w.cell? ⟨b0, o0 + 2, none⟩ = some (.iface 120 (.pointer (some ⟨b1, o1, none⟩)))) (p : Int) (h0 : p < 0) (hp1 : w.cell? ⟨b1, o1 + 1, none⟩ = some (.int .i64 p)) (a : Addr) (hs1 : w.cell? ⟨b1, o1 + 2, none⟩ = some (.iface 261 (.pointer (some a)))) (hg : w.cell? ⟨9, 0, none⟩ = some errT) :
    Calls Tryz.prog 38 #[.iface 120 (.pointer (some ⟨b0, o0, none⟩))] w fun e w' => e = .returned (.int .i64 (-1)) ∧ Below w.heap.size w w' := by
  have hb0 := (Below.refl w.heap.size w).alloc (Nat.le_refl _) (.cells #[.pointer none] 120)
  have G0 := Lib.hid (cell_below hg hb0)
  have P0 := Lib.hid (cell_below hp0 hb0)
  have l0 := cell_lt hp0
  have S0 := Lib.hid (cell_below hs0 hb0)
  have m0 := cell_lt hs0
  have P1 := Lib.hid (cell_below hp1 hb0)
  have l1 := cell_lt hp1
  have S1 := Lib.hid (cell_below hs1 hb0)
  have m1 := cell_lt hs1
  have B0 := Lib.hid hb0
  have hgb := cell_lt hg
  have hwb : Whole (w.alloc (.cells #[.pointer none] 120)) w.heap.size 120 #[.pointer none] := Whole.new w 120 #[.pointer none]
  have n0' : ¬ 0 ≤ q0 := by omega
  have h0' : ¬ 0 ≤ p := by omega
  try clear hb0 hg hp0 hp1 hs0 hs1
  go_enter Tryz.func38, Tryz.ntmps38
  go_wp2_with fail
  refine wp_loop_rounds 3 ?_
  rw [rounds_succ]
  go_wp2_with fail
  refine (as_found2 ⟨b0, o0, none⟩ ⟨w.heap.size, 0, none⟩ (.pointer none) _ G0.out (by simp) (hwb.frozen 0) rfl).mono ?_
  rintro e w2 ⟨rfl, hc0, fz0, hb⟩
  have P0 := Lib.hid ((hb.cell (p := ⟨b0, o0 + 1, none⟩) l0).trans P0.out)
  have S0 := Lib.hid ((hb.cell (p := ⟨b0, o0 + 2, none⟩) m0).trans S0.out)
  have P1 := Lib.hid ((hb.cell (p := ⟨b1, o1 + 1, none⟩) l1).trans P1.out)
  have S1 := Lib.hid ((hb.cell (p := ⟨b1, o1 + 2, none⟩) m1).trans S1.out)
  have G1 := Lib.hid ((hb.cell (p := ⟨9, 0, none⟩) hgb).trans G0.out)
  have B1 := Lib.hid (B0.out.trans hb)
  have hp0 := P0.out
  have hs0 := S0.out
  try clear hb
  go_wp2_with fail
  try clear hp0 hs0
  rw [rounds_succ]
  go_wp2_with fail
  refine (as_found2 ⟨b1, o1, none⟩ ⟨w.heap.size, 0, none⟩ (.pointer (some ⟨b0, o0, none⟩)) w2 G1.out hc0 (fz0) rfl).mono ?_
  rintro e w3 ⟨rfl, hc1, fz1, hb⟩
  have P1 := Lib.hid ((hb.cell (p := ⟨b1, o1 + 1, none⟩) l1).trans P1.out)
  have S1 := Lib.hid ((hb.cell (p := ⟨b1, o1 + 2, none⟩) m1).trans S1.out)
  have G2 := Lib.hid ((hb.cell (p := ⟨9, 0, none⟩) hgb).trans G1.out)
  have B2 := Lib.hid (B1.out.trans hb)
  have hp1 := P1.out
  have hs1 := S1.out
  try clear hb
  go_wp2_with fail
  try clear hp1 hs1
  rw [rounds_succ]
  go_wp2_with fail
  refine (as_miss a ⟨w.heap.size, 0, none⟩ w3 G2.out).mono ?_
  rintro e w9 ⟨rfl, rfl⟩
  go_wp2_with fail
  go_ret
  have hsz := B2.out.size
  exact ⟨rfl, ((B2.out.alloc hsz _).alloc (by simp; omega) _).alloc (by simp; omega) _⟩
end Go.Proofs.YtlmekdfleciejaaGreatDoor
set_option linter.unusedSimpArgs false
namespace Go.Proofs.YtlmekdfleciejaaGreatDoor
open Go.RowKit
theorem errV_at {S : Nat → Nat → Prop} {w : World} {v : Value} {p : Int} {e : AV} (h : RV S w v (errV p e)) : ∃ b o u, v = .iface 120 (.pointer (some ⟨b, o, none⟩)) ∧ w.cell? ⟨b, o + 1, none⟩ = some (.int .i64 p) ∧ w.cell? ⟨b, o + 2, none⟩ = some u ∧ RV S w u e := by
  have h : RV S w v (.iface 120 (.ref 3 [[.any, I p, e]] 0 0)) := h
  cases h with
  | iface t v c h =>
    cases h with
    | ref sz es i off b o u hz hc hrv =>
      have h2 := (hc 0 1 (I p) rfl).2.1
      rw [(hrv 0 1 (I p) rfl).lit_inv] at h2
      have h3 := (hc 0 2 e rfl).2.1
      exact ⟨b, o + (0 * 3 + 0), u 0 2, rfl, by simpa using h2, by simpa using h3, hrv 0 2 e rfl⟩
theorem code_chainG (env : Env) (ad : Nat → Addr) (hS : ∀ w, env.inv w → Sents w ad) (k : Nat) (hk : 1 ≤ k ∧ k ≤ 9) (ps : List Int) : Con Tryz.prog env 97 [chainV ps (sentV (ad k))] (I k) :=
  con_lit Tryz.call97 fun w S vs hE hl hv => by
    match vs, hl with
    | [v], _ =>
      have hS : Sents w ad := hS w hE.inv
      refine (code_any hS k hk ps.length v (chain_at (sents_lies hS k hk) ps v (hv 0 v _ rfl rfl))).mono ?_
      rintro e w' ⟨rfl, rfl⟩
      exact ⟨rfl, Below.refl _ _⟩
theorem page2_con (env : Env) (he : env 9 = some (.lit errT)) (p : Int) (h0 : -1 ≤ p) (a : Addr) : Con Tryz.prog env 38 [errV (-1) (errV p (sentV a))] (I p) := by
  refine con_lit Tryz.call38 fun w S vs hE hl hv => ?_
  match vs, hl with
  | [v], _ =>
    obtain ⟨u, h1, _, _, h4⟩ := hE.env _ _ he
    rw [h4.lit_inv] at h1
    obtain ⟨b0, o0, u0, rfl, p0, s0, r0⟩ := errV_at (hv 0 v _ rfl rfl)
    obtain ⟨b1, o1, u1, rfl, p1, s1, r1⟩ := errV_at r0
    rw [r1.lit_inv] at s1
    by_cases h : 0 ≤ p
    · exact page_ch2 b0 o0 b1 o1 w (-1) (by omega) p0 s0 p h p1 h1
    · obtain rfl : p = -1 := by omega
      exact page_ch2n b0 o0 b1 o1 w (-1) (by omega) p0 s0 (-1) (by omega) p1 a s1 h1
def nineTb (ad : Nat → Addr) : Env := ⟨fun g => if g = 9 then some (.lit errT) else sentAt ad g, fun w => (Sents w ad ∧ TabAt w) ∧ w.cell? ⟨9, 0, none⟩ = some errT, fun _ _ h hb => ⟨⟨h.1.1.below hb, h.1.2.below hb⟩, cell_below h.2 hb⟩⟩
theorem nineTb_ok {ad : Nat → Addr} {w : World} (h : Sents w ad) (hT : TabAt w) (ht : w.cell? ⟨9, 0, none⟩ = some errT) : EnvOk (nineTb ad) (fun b _ => b < w.heap.size) w := by
  have h0 := errEnv_ok (mo := ⟨fun _ => True, fun _ _ _ _ => trivial⟩) h trivial
  refine ⟨⟨⟨h, hT⟩, ht⟩, fun b o hb => hb, fun g c hg => ?_⟩
  have hg : (if g = 9 then some (.lit errT) else sentAt ad g) = some c := hg
  split at hg
  · rename_i e
    subst e
    cases hg
    exact ⟨_, ht, rfl, cell_lt ht, .lit _⟩
  · exact h0.env g c hg
theorem nineTb_ch (ad : Nat → Addr) : ChEnv (nineTb ad) (ad 1) (ad 8) := ⟨rfl, rfl⟩
theorem nineTb_tab (ad : Nat → Addr) : ∀ W, (nineTb ad).inv W → TabAt W := fun _ h => h.1.2
theorem nineTb_sents (ad : Nat → Addr) : ∀ W, (nineTb ad).inv W → Sents W ad := fun _ h => h.1.1
end Go.Proofs.YtlmekdfleciejaaGreatDoor
set_option linter.unusedSimpArgs false
namespace Go.Proofs.YtlmekdfleciejaaGreatDoor
open Go.RowKit
set_option maxRecDepth 100000
set_option maxHeartbeats 8000000
theorem tells30g_con (env : Env) (ad : Nat → Addr) (hS : ∀ w, env.inv w → Sents w ad) (k : Nat) (hk : 1 ≤ k ∧ k ≤ 9) (p : Int) (ps : List Int) : Con Tryz.prog env 58 [errV p (chainV ps (sentV (ad k))), I k] (B true) := by
  have f0 : Con Tryz.prog env 97 [errV p (chainV ps (sentV (ad k)))] (I k) := code_chainG env ad hS k hk (p :: ps)
  have b0 : (((k : Nat) : Int) == 0) = false := by simp; omega
  generalize chainV ps (sentV (ad k)) = X at *
  refine con_of_body Tryz.func58 rfl Tryz.call58 (by rw [Tryz.ntmps58]; simp) ?_
  rw [Tryz.ntmps58, Tryz.results58]
  have F := b0
  repeat (first | refine st ?_ | refine cC f0 ?_)
  exact aR
def restsB (c : ChD) (act : List Int) (mem : List MemD) : Bool := !goodB c || decide (60 < (act.length : Int)) || decide (60 < (mem.length : Int))
theorem rests30_con (env : Env) (c : ChD) (act : List Int) (n : Int) (mem : List MemD) : Con Tryz.prog env 44 [.agg (caseAV c act n mem)] (B (restsB c act mem)) := by
  have f0 := light30_con env c
  have f1 := rRight_con env c
  unfold chAV at f0 f1
  unfold restsB goodB
  cases h1 : lightTB c
  · rw [h1] at f0
    refine con_of_body Tryz.func44 rfl Tryz.call44 (by rw [Tryz.ntmps44]; simp) ?_
    rw [Tryz.ntmps44, Tryz.results44]
    repeat (first | refine oO rfl (by simp only [go_sem, caseAV]; exact ⟨rfl, rfl⟩) ?_ | refine gR ?_ | refine gO ?_ | refine oC rfl (f0) (by simp only [go_sem, caseAV]; exact iR) (by simp only [go_sem, caseAV]; exact ⟨rfl, rfl⟩) ?_ | refine oC rfl (f1) (by simp only [go_sem, caseAV]; exact iR) (by simp only [go_sem, caseAV]; exact ⟨rfl, rfl⟩) ?_ | refine oZ (d_end ?_) | refine oZ ?_ | refine oS ?_ | refine gT ?_ | refine gD Tryz.mixed ?_ | refine oB ?_ | refine oK ?_ | (refine oX ?_; simp only [thenA, blockA, ↓reduceIte, Nat.reduceEqDiff, reduceCtorEq]) | refine oY (by simp only [go_sem, caseAV]; exact iR) ?_ | refine oN (by simp only [go_sem, caseAV]; exact iR) ?_)
    (refine awp_ret ?_; show (resRd _ _ _).run _ = some _; simp only [go_sem, caseAV])
  rw [h1] at f0
  cases h2 : ((chk c).1 == 0)
  · rw [h2] at f1
    refine con_of_body Tryz.func44 rfl Tryz.call44 (by rw [Tryz.ntmps44]; simp) ?_
    rw [Tryz.ntmps44, Tryz.results44]
    repeat (first | refine oO rfl (by simp only [go_sem, caseAV]; exact ⟨rfl, rfl⟩) ?_ | refine gR ?_ | refine gO ?_ | refine oC rfl (f0) (by simp only [go_sem, caseAV]; exact iR) (by simp only [go_sem, caseAV]; exact ⟨rfl, rfl⟩) ?_ | refine oC rfl (f1) (by simp only [go_sem, caseAV]; exact iR) (by simp only [go_sem, caseAV]; exact ⟨rfl, rfl⟩) ?_ | refine oZ (d_end ?_) | refine oZ ?_ | refine oS ?_ | refine gT ?_ | refine gD Tryz.mixed ?_ | refine oB ?_ | refine oK ?_ | (refine oX ?_; simp only [thenA, blockA, ↓reduceIte, Nat.reduceEqDiff, reduceCtorEq]) | refine oY (by simp only [go_sem, caseAV]; exact iR) ?_ | refine oN (by simp only [go_sem, caseAV]; exact iR) ?_)
    (refine awp_ret ?_; show (resRd _ _ _).run _ = some _; simp only [go_sem, caseAV])
  rw [h2] at f1
  by_cases h3 : 60 < (act.length : Int)
  · rw [decide_eq_true h3]
    refine con_of_body Tryz.func44 rfl Tryz.call44 (by rw [Tryz.ntmps44]; simp) ?_
    rw [Tryz.ntmps44, Tryz.results44]
    have F := h3
    repeat (first | refine oO rfl (by simp only [go_sem, caseAV, F]; exact ⟨rfl, rfl⟩) ?_ | refine gR ?_ | refine gO ?_ | refine oC rfl (f0) (by simp only [go_sem, caseAV, F]; exact iR) (by simp only [go_sem, caseAV, F]; exact ⟨rfl, rfl⟩) ?_ | refine oC rfl (f1) (by simp only [go_sem, caseAV, F]; exact iR) (by simp only [go_sem, caseAV, F]; exact ⟨rfl, rfl⟩) ?_ | refine oZ (d_end ?_) | refine oZ ?_ | refine oS ?_ | refine gT ?_ | refine gD Tryz.mixed ?_ | refine oB ?_ | refine oK ?_ | (refine oX ?_; simp only [thenA, blockA, ↓reduceIte, Nat.reduceEqDiff, reduceCtorEq]) | refine oY (by simp only [go_sem, caseAV, F]; exact iR) ?_ | refine oN (by simp only [go_sem, caseAV, F]; exact iR) ?_)
    (refine awp_ret ?_; show (resRd _ _ _).run _ = some _; simp only [go_sem, caseAV, F])
  rw [decide_eq_false h3]
  by_cases h4 : 60 < (mem.length : Int)
  · rw [decide_eq_true h4]
    refine con_of_body Tryz.func44 rfl Tryz.call44 (by rw [Tryz.ntmps44]; simp) ?_
    rw [Tryz.ntmps44, Tryz.results44]
    have F := And.intro h3 <| h4
    repeat (first | refine oO rfl (by simp only [go_sem, caseAV, F]; exact ⟨rfl, rfl⟩) ?_ | refine gR ?_ | refine gO ?_ | refine oC rfl (f0) (by simp only [go_sem, caseAV, F]; exact iR) (by simp only [go_sem, caseAV, F]; exact ⟨rfl, rfl⟩) ?_ | refine oC rfl (f1) (by simp only [go_sem, caseAV, F]; exact iR) (by simp only [go_sem, caseAV, F]; exact ⟨rfl, rfl⟩) ?_ | refine oZ (d_end ?_) | refine oZ ?_ | refine oS ?_ | refine gT ?_ | refine gD Tryz.mixed ?_ | refine oB ?_ | refine oK ?_ | (refine oX ?_; simp only [thenA, blockA, ↓reduceIte, Nat.reduceEqDiff, reduceCtorEq]) | refine oY (by simp only [go_sem, caseAV, F]; exact iR) ?_ | refine oN (by simp only [go_sem, caseAV, F]; exact iR) ?_)
    (refine awp_ret ?_; show (resRd _ _ _).run _ = some _; simp only [go_sem, caseAV, F])
  · rw [decide_eq_false h4]
    refine con_of_body Tryz.func44 rfl Tryz.call44 (by rw [Tryz.ntmps44]; simp) ?_
    rw [Tryz.ntmps44, Tryz.results44]
    have F := And.intro h3 <| h4
    repeat (first | refine oO rfl (by simp only [go_sem, caseAV, F]; exact ⟨rfl, rfl⟩) ?_ | refine gR ?_ | refine gO ?_ | refine oC rfl (f0) (by simp only [go_sem, caseAV, F]; exact iR) (by simp only [go_sem, caseAV, F]; exact ⟨rfl, rfl⟩) ?_ | refine oC rfl (f1) (by simp only [go_sem, caseAV, F]; exact iR) (by simp only [go_sem, caseAV, F]; exact ⟨rfl, rfl⟩) ?_ | refine oZ (d_end ?_) | refine oZ ?_ | refine oS ?_ | refine gT ?_ | refine gD Tryz.mixed ?_ | refine oB ?_ | refine oK ?_ | (refine oX ?_; simp only [thenA, blockA, ↓reduceIte, Nat.reduceEqDiff, reduceCtorEq]) | refine oY (by simp only [go_sem, caseAV, F]; exact iR) ?_ | refine oN (by simp only [go_sem, caseAV, F]; exact iR) ?_)
    (refine awp_ret ?_; show (resRd _ _ _).run _ = some _; simp only [go_sem, caseAV, F])
theorem lgChk_ge (c : ChD) (act : List Int) : -1 ≤ (lgChk c act).2 := by
  unfold lgChk
  split
  · simp only; omega
  · split <;> (simp only; omega)
theorem leave_nat {c : ChD} (hc : Right c) {act : List Int} {t : TrD} : (∀ x ∈ leaveR c act t, 0 ≤ x) ∧ (leaveR c act t).length ≤ 32 := by
  unfold leaveR
  split
  · exact ⟨fun x hx => (by cases hx), by simp⟩
  · refine ⟨fun x hx => ?_, ?_⟩
    · have hx := List.mem_reverse.1 hx
      unfold undR at hx
      have := (List.mem_filter.1 hx).1
      obtain ⟨k, _, rfl⟩ := List.mem_map.1 this
      omega
    · rw [List.length_reverse]
      exact Nat.le_trans (List.length_filter_le ..) (by rw [zL_len]; exact sortL_few hc act)
theorem lawEnterLeaves_con (ad : Nat → Addr) (c : ChD) (hcf : few_ch c) (act : List Int) (n : Int) (mem : List MemD) : Con Tryz.prog (nineTb ad) 13 [.agg (caseAV c act n mem)] (B true) := by
  have he := nineTb_ch ad
  have hE := nineTb_sents ad
  have fa := awake30_con (nineTb ad) (ad 1) (ad 8) he (nineTb_tab ad)
  have fr := rests30_con (nineTb ad) c act n mem
  cases hg : goodB c with
  | false =>
    have fm := made30_none (nineTb ad) c hg
    unfold restsB at fr
    rw [hg, Bool.not_false, Bool.true_or, Bool.true_or] at fr
    unfold chAV at fm
    unfold caseAV at fr ⊢
    refine con_of_body Tryz.func13 rfl Tryz.call13 (by rw [Tryz.ntmps13]; simp) ?_
    rw [Tryz.ntmps13, Tryz.results13]
    repeat (first | refine st0 ?_ | refine cC0 fm ?_ | refine cC0 fr ?_ | refine cC0 fa ?_)
    exact aR0
  | true =>
  have h := good_full hg
  have hs := small_of (good_ok hg)
  have fm := made30_con (nineTb ad) (ad 1) (ad 8) he (nineTb_tab ad) c hcf hg
  cases hr : restsB c act mem with
  | true =>
    rw [hr] at fr
    unfold chAV tabAV at fm
    unfold caseAV at fr ⊢
    refine con_of_body Tryz.func13 rfl Tryz.call13 (by rw [Tryz.ntmps13]; simp) ?_
    rw [Tryz.ntmps13, Tryz.results13]
    repeat (first | refine st0 ?_ | refine cC0 fm ?_ | refine cC0 fr ?_ | refine cC0 fa ?_)
    exact aR0
  | false =>
  rw [hr] at fr
  unfold restsB at hr
  rw [hg, Bool.not_true, Bool.false_or, Bool.or_eq_false_iff, decide_eq_false_iff_not] at hr
  have hl : act.length ≤ 1000000 := by omega
  have fc := rCheck29g_con (nineTb ad) c h act hl
  cases hb : lgB c act with
  | false =>
    have hcode : (lgChk c act).1 = 1 := by rw [lg_code, hb]; rfl
    have hge := lgChk_ge c act
    have fl := LeaveE_con (nineTb ad) (ad 1) (ad 8) he c h hs act hl n hb
    rw [hcode] at fc
    generalize (lgChk c act).2 = p at *
    have ft : Con Tryz.prog (nineTb ad) 58 [errV (-1) (errV p (sentV (ad 1))), I 1] (B true) := tells30g_con (nineTb ad) ad hE 1 (by omega) (-1) [p]
    have fp := page2_con (nineTb ad) rfl p hge (ad 1)
    generalize sentV (ad 1) = E at *
    unfold chAV at fc
    unfold chAV tabAV at fm
    unfold tabAV at fl
    unfold caseAV at fr ⊢
    refine con_of_body Tryz.func13 rfl Tryz.call13 (by rw [Tryz.ntmps13]; simp) ?_
    rw [Tryz.ntmps13, Tryz.results13]
    repeat (first | refine st0 ?_ | refine cC0 fm ?_ | refine cC0 fr ?_ | refine cC0 fl ?_ | refine cC0 fc ?_ | refine cC0 ft ?_ | refine cC0 fp ?_ | refine cC0 fa ?_)
    exact aR0
  | true =>
  have hcode : (lgChk c act).1 = 0 := by rw [lg_code, hb]; rfl
  rw [hcode] at fc
  generalize (lgChk c act).2 = p at *
  have fi := rIs30_con (nineTb ad) c n
  cases ht : isT c n with
  | false =>
    rw [ht] at fi
    have fl := LeaveN_con (nineTb ad) (ad 1) (ad 8) he c h hs act hl n hb ht
    have ft : Con Tryz.prog (nineTb ad) 58 [errV (-1) (sentV (ad 1)), I 1] (B true) := tells30g_con (nineTb ad) ad hE 1 (by omega) (-1) []
    generalize sentV (ad 1) = E at *
    unfold chAV at fc fi
    unfold chAV tabAV at fm
    unfold tabAV at fl
    unfold caseAV at fr ⊢
    refine con_of_body Tryz.func13 rfl Tryz.call13 (by rw [Tryz.ntmps13]; simp) ?_
    rw [Tryz.ntmps13, Tryz.results13]
    repeat (first | refine st0 ?_ | refine cC0 fm ?_ | refine cC0 fr ?_ | refine cC0 fl ?_ | refine cC0 fc ?_ | refine cC0 fi ?_ | refine cC0 ft ?_ | refine cC0 fa ?_)
    exact aR0
  | true =>
    rw [ht] at fi
    obtain ⟨k, t, rfl, hk⟩ := isT_at ht
    have hk1 := (List.getElem?_eq_some_iff.1 hk).1
    have q0 : ((k : Nat) : Int) < (c.trans.length : Int) := by omega
    have hz : ∀ x ∈ act, 0 ≤ x := fun x hx => by
      obtain ⟨s, hs, _⟩ := (lg_out hb).fit x hx
      unfold at_ at hs
      split at hs
      · assumption
      · cases hs
    have fl := Leave_con (nineTb ad) (ad 1) (ad 8) he c h hs act hl k t hk hb
    have fd := rLeave30_con (nineTb ad) c h act hl hz k t hk
    obtain ⟨n1, n2⟩ := leave_nat h.toRight (act := act) (t := t)
    have n3 := zL_of n1
    have n4 : ((leaveR c act t).map Int.toNat).length ≤ 1000000 := by rw [List.length_map]; omega
    generalize (leaveR c act t).map Int.toNat = M at *
    rw [n3, zL_int] at fl fd
    have fs := sameInts_con (nineTb ad) M M n4
    rw [decide_eq_true rfl] at fs
    unfold chAV at fc fi fd
    unfold trAV at fd
    unfold chAV tabAV at fm
    unfold tabAV at fl
    unfold caseAV at fr ⊢
    refine con_of_body Tryz.func13 rfl Tryz.call13 (by rw [Tryz.ntmps13]; simp) ?_
    rw [Tryz.ntmps13, Tryz.results13]
    have F := And.intro trAV.eq_1 <| And.intro hk <| q0
    repeat (first | refine st ?_ | refine cC fm ?_ | refine cC fr ?_ | refine cC fl ?_ | refine cC fc ?_ | refine cC fi ?_ | refine cC fd ?_ | refine cC fs ?_ | refine cC fa ?_)
    exact aR
end Go.Proofs.YtlmekdfleciejaaGreatDoor
set_option linter.unusedSimpArgs false
namespace Go.Proofs.YtlmekdfleciejaaGreatDoor
open Go.RowKit
set_option maxRecDepth 100000
set_option maxHeartbeats 8000000
end Go.Proofs.YtlmekdfleciejaaGreatDoor
set_option linter.unusedSimpArgs false
namespace Go.Proofs.YtlmekdfleciejaaGreatDoor
open Go.RowKit
set_option maxRecDepth 100000
set_option maxHeartbeats 8000000
/-! Nil tables -/
end Go.Proofs.YtlmekdfleciejaaGreatDoor
set_option linter.unusedSimpArgs false
namespace Go.Proofs.YtlmekdfleciejaaGreatDoor
open Go.RowKit Go.ChangeShapes
set_option maxRecDepth 100000
set_option maxHeartbeats 8000000
end Go.Proofs.YtlmekdfleciejaaGreatDoor
set_option linter.unusedSimpArgs false
namespace Go.Proofs.YtlmekdfleciejaaGreatDoor
open Go.RowKit Go.ChangeShapes
set_option maxRecDepth 100000
set_option maxHeartbeats 8000000
end Go.Proofs.YtlmekdfleciejaaGreatDoor
set_option linter.unusedSimpArgs false
namespace Go.Proofs.YtlmekdfleciejaaGreatDoor
open Go.RowKit Go.ChangeShapes
theorem laid_news {W : World} (h : laidMetH Tryz.prog [("math/bits.deBruijn32tab", Rows.laid_math_bits_deBruijn32tab), ("errors.errorType", Rows.laid_errors_errorType), ("scrinium/api.ErrForm", Rows.laid_scrinium_api_ErrForm), ("scrinium/api.ErrRange", Rows.laid_scrinium_api_ErrRange), ("scrinium/api.ErrFull", Rows.laid_scrinium_api_ErrFull), ("scrinium/api.ErrNone", Rows.laid_scrinium_api_ErrNone), ("scrinium/api.ErrCorrupt", Rows.laid_scrinium_api_ErrCorrupt), ("scrinium/api.ErrFuel", Rows.laid_scrinium_api_ErrFuel), ("scrinium/api.ErrState", Rows.laid_scrinium_api_ErrState), ("scrinium/api.ErrLong", Rows.laid_scrinium_api_ErrLong), ("scrinium/api.ErrTwice", Rows.laid_scrinium_api_ErrTwice)] W) : (∃ ad, Sents W ad) ∧ TabAt W ∧ W.cell? ⟨9, 0, none⟩ = some errT := by
  have h' : laidMet Tryz.prog [("math/bits.deBruijn32tab", Rows.laid_math_bits_deBruijn32tab), ("scrinium/api.ErrForm", Rows.laid_scrinium_api_ErrForm), ("scrinium/api.ErrRange", Rows.laid_scrinium_api_ErrRange), ("scrinium/api.ErrFull", Rows.laid_scrinium_api_ErrFull), ("scrinium/api.ErrNone", Rows.laid_scrinium_api_ErrNone), ("scrinium/api.ErrCorrupt", Rows.laid_scrinium_api_ErrCorrupt), ("scrinium/api.ErrFuel", Rows.laid_scrinium_api_ErrFuel), ("scrinium/api.ErrState", Rows.laid_scrinium_api_ErrState), ("scrinium/api.ErrLong", Rows.laid_scrinium_api_ErrLong), ("scrinium/api.ErrTwice", Rows.laid_scrinium_api_ErrTwice)] W ∧ handlesMet Tryz.prog [("errors.errorType", Rows.laid_errors_errorType)] W := h
  have hT := handle_cell h'.2 (by simp)
  obtain ⟨ps, hv, hnd, hrows⟩ := h'.1
  obtain ⟨g0, t0, cs0, f0, p0, q0, hg0, ht0, hv0, hd0, hrest, rfl⟩ := hv
  refine ⟨sents_of_nine ?_, tab_of hg0 ht0 hv0 hd0, hT⟩
  rw [MakeChecks.laidMetH_plain _ _ _ (by kernel_rfl)]
  exact ⟨q0, hrest, (List.nodup_append.1 hnd).2.1, fun b off hh => hrows b off (List.mem_append_right _ hh)⟩
end Go.Proofs.YtlmekdfleciejaaGreatDoor
