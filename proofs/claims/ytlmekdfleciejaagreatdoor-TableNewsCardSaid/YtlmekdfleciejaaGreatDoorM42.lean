/- What TableNews's list of variables gives. -/
import Derived.Test.YtlmekdfleciejaaGreatDoorM41
import Derived.Test.YtlmekdfleciejaaGreatDoorM6
import Derived.Test.YtlmekdfleciejaaGreatDoorM8
import Derived.Test.YtlmekdfleciejaaGreatDoorM27
import Derived.Test.YtlmekdfleciejaaGreatDoorM38
import Derived.Test.YtlmekdfleciejaaGreatDoorM40
import Derived.Test.YtlmekdfleciejaaGreatDoorM21
import Derived.Test.YtlmekdfleciejaaGreatDoorM15
set_option linter.unusedSimpArgs false
namespace Go.Proofs.YtlmekdfleciejaaGreatDoor
open Go.RowKit
theorem errV_at {S : Nat → Nat → Prop} {w : World} {v : Value} {p : Int} {e : AV} (h : RV S w v (errV p e)) : ∃ b o u, v = .iface 120 (.pointer (some ⟨b, o, none⟩)) ∧ w.cell? ⟨b, o + 1, none⟩ = some (.int .i64 p) ∧ w.cell? ⟨b, o + 2, none⟩ = some u ∧ RV S w u e := by
  have h : RV S w v (.iface 120 (.ref 3 [[.any, I p, e]] 0 0)) := h
  cases h with
  | iface t v c h =>
    cases h with
    | ref sz es i off b o u hz hc hrv =>
      have h2 := (hc 0 1 (I p) rfl).2.1
      rw [(hrv 0 1 (I p) rfl).lit_inv] at h2
      have h3 := (hc 0 2 e rfl).2.1
      exact ⟨b, o + (0 * 3 + 0), u 0 2, rfl, by simpa using h2, by simpa using h3, hrv 0 2 e rfl⟩
theorem code_chainG (env : Env) (ad : Nat → Addr) (hS : ∀ w, env.inv w → Sents w ad) (k : Nat) (hk : 1 ≤ k ∧ k ≤ 9) (ps : List Int) : Con Tryz.prog env 97 [chainV ps (sentV (ad k))] (I k) :=
  con_lit Tryz.call97 fun w S vs hE hl hv => by
    match vs, hl with
    | [v], _ =>
      have hS : Sents w ad := hS w hE.inv
      refine (code_any hS k hk ps.length v (chain_at (sents_lies hS k hk) ps v (hv 0 v _ rfl rfl))).mono ?_
      rintro e w' ⟨rfl, rfl⟩
      exact ⟨rfl, Below.refl _ _⟩
theorem page3_con (env : Env) (he : env 9 = some (.lit errT)) (p : Int) (h0 : -1 ≤ p) (a : Addr) : Con Tryz.prog env 38 [errV (-1) (errV (-1) (errV p (sentV a)))] (I p) := by
  refine con_lit Tryz.call38 fun w S vs hE hl hv => ?_
  match vs, hl with
  | [v], _ =>
    obtain ⟨u, h1, _, _, h4⟩ := hE.env _ _ he
    rw [h4.lit_inv] at h1
    obtain ⟨b0, o0, u0, rfl, p0, s0, r0⟩ := errV_at (hv 0 v _ rfl rfl)
    obtain ⟨b1, o1, u1, rfl, p1, s1, r1⟩ := errV_at r0
    obtain ⟨b2, o2, u2, rfl, p2, s2, r2⟩ := errV_at r1
    rw [r2.lit_inv] at s2
    by_cases h : 0 ≤ p
    · exact page_ch3 b0 o0 b1 o1 b2 o2 w (-1) (by omega) p0 s0 (-1) (by omega) p1 s1 p h p2 h1
    · obtain rfl : p = -1 := by omega
      exact page_ch3n b0 o0 b1 o1 b2 o2 w (-1) (by omega) p0 s0 (-1) (by omega) p1 s1 (-1) (by omega) p2 a s2 h1
def nineTb (ad : Nat → Addr) : Env := ⟨fun g => if g = 9 then some (.lit errT) else sentAt ad g, fun w => (Sents w ad ∧ TabAt w) ∧ w.cell? ⟨9, 0, none⟩ = some errT, fun _ _ h hb => ⟨⟨h.1.1.below hb, h.1.2.below hb⟩, cell_below h.2 hb⟩⟩
theorem nineTb_ok {ad : Nat → Addr} {w : World} (h : Sents w ad) (hT : TabAt w) (ht : w.cell? ⟨9, 0, none⟩ = some errT) : EnvOk (nineTb ad) (fun b _ => b < w.heap.size) w := by
  have h0 := errEnv_ok (mo := ⟨fun _ => True, fun _ _ _ _ => trivial⟩) h trivial
  refine ⟨⟨⟨h, hT⟩, ht⟩, fun b o hb => hb, fun g c hg => ?_⟩
  have hg : (if g = 9 then some (.lit errT) else sentAt ad g) = some c := hg
  split at hg
  · rename_i e
    subst e
    cases hg
    exact ⟨_, ht, rfl, cell_lt ht, .lit _⟩
  · exact h0.env g c hg
theorem nineTb_ch (ad : Nat → Addr) : ChEnv (nineTb ad) (ad 1) (ad 8) := ⟨rfl, rfl⟩
theorem nineTb_tab (ad : Nat → Addr) : ∀ W, (nineTb ad).inv W → TabAt W := fun _ h => h.1.2
theorem nineTb_sents (ad : Nat → Addr) : ∀ W, (nineTb ad).inv W → Sents W ad := fun _ h => h.1.1
end Go.Proofs.YtlmekdfleciejaaGreatDoor
set_option linter.unusedSimpArgs false
namespace Go.Proofs.YtlmekdfleciejaaGreatDoor
open Go.RowKit Go.ChangeShapes
set_option maxRecDepth 100000
set_option maxHeartbeats 8000000
theorem chk_cases (c : ChD) : chk c = (0, -1) ∨ chk c = (8, -1) ∨ ∃ p, -1 ≤ p ∧ chk c = (1, p) := by
  unfold chk
  split
  · exact .inr (.inl rfl)
  split
  · exact .inr (.inr ⟨-1, by omega, rfl⟩)
  split
  · exact .inr (.inr ⟨_, by omega, rfl⟩)
  split
  · exact .inr (.inr ⟨_, by omega, rfl⟩)
  split
  · exact .inr (.inr ⟨-1, by omega, rfl⟩)
  split
  · exact .inr (.inr ⟨_, by omega, rfl⟩)
  · exact .inl rfl
end Go.Proofs.YtlmekdfleciejaaGreatDoor
set_option linter.unusedSimpArgs false
namespace Go.Proofs.YtlmekdfleciejaaGreatDoor
open Go.RowKit Go.ChangeShapes
set_option maxRecDepth 100000
set_option maxHeartbeats 8000000
theorem tnewE_con (env : Env) (a1 a8 : Addr) (he : ChEnv env a1 a8) (c : ChD) (hcf : few_ch c) (p : Int) (e : AV) (hne : chkAV a1 a8 c = errV p e) : Con Tryz.prog env 87 [.agg (chAV c)] (.tuple [nilTb, errV (-1) (errV p e)]) := by
  have f0 := pCheck_con env a1 a8 he c hcf
  rw [hne] at f0
  have f1 := wrap_con env [116, 114, 101, 101, 46, 78, 101, 119] p e
  refine con_of_body Tryz.func87 rfl Tryz.call87 (by rw [Tryz.ntmps87]; simp) ?_
  rw [Tryz.ntmps87, Tryz.results87]
  repeat (first | refine st0 ?_ | refine cC0 f0 ?_ | refine cC0 f1 ?_)
  exact aR0
theorem tableE_con (env : Env) (a1 a8 : Addr) (he : ChEnv env a1 a8) (c : ChD) (hcf : few_ch c) (p : Int) (e : AV) (hne : chkAV a1 a8 c = errV p e) : Con Tryz.prog env 35 [.agg (chAV c)] (.tuple [nilTb, errV (-1) (errV (-1) (errV p e))]) := by
  have f0 := tnewE_con env a1 a8 he c hcf p e hne
  have f1 := wrap_con env [116, 97, 98, 108, 101, 46, 78, 101, 119] (-1) (errV p e)
  refine con_of_body Tryz.func35 rfl Tryz.call35 (by rw [Tryz.ntmps35]; simp) ?_
  rw [Tryz.ntmps35, Tryz.results35]
  repeat (first | refine st0 ?_ | refine cC0 f0 ?_ | refine cC0 f1 ?_)
  exact aR0
theorem tells28_con (env : Env) (ad : Nat → Addr) (hS : ∀ w, env.inv w → Sents w ad) (k : Nat) (hk : 1 ≤ k ∧ k ≤ 9) (p : Int) (ps : List Int) : Con Tryz.prog env 37 [errV p (chainV ps (sentV (ad k))), I k] (B true) := by
  have f0 : Con Tryz.prog env 97 [errV p (chainV ps (sentV (ad k)))] (I k) := code_chainG env ad hS k hk (p :: ps)
  have b0 : (((k : Nat) : Int) == 0) = false := by simp; omega
  generalize chainV ps (sentV (ad k)) = X at *
  refine con_of_body Tryz.func37 rfl Tryz.call37 (by rw [Tryz.ntmps37]; simp) ?_
  rw [Tryz.ntmps37, Tryz.results37]
  have F := b0
  repeat (first | refine st ?_ | refine cC f0 ?_)
  exact aR
theorem lawTableNews_con (ad : Nat → Addr) (c : ChD) (hcf : few_ch c) (s : Str8) : Con Tryz.prog (nineTb ad) 5 [.agg (chAV c), Sg s] (B true) := by
  have he := nineTb_ch ad
  have f0 := light28_con (nineTb ad) c
  have fa := awake28_con (nineTb ad) (ad 1) (ad 8) he (nineTb_tab ad)
  have n1 := nEvent_con (nineTb ad) s
  have n2 := nEvents_con (nineTb ad)
  have n3 := nTree_con (nineTb ad)
  have n4 := nAt_con (nineTb ad) 0 0
  have n5 := nAuto_con (nineTb ad) 0
  have n6 := nBegin_con (nineTb ad) (-1)
  have n7 := nReal_con (nineTb ad) (-1)
  have n8 := nMem_con (nineTb ad) 0
  have n9 := nReach_con (nineTb ad)
  have n10 := nDead_con (nineTb ad)
  have n11 := nChart_con (nineTb ad)
  have f4 := rCheck_con (nineTb ad) c
  unfold chkT at f4
  have w0 : IntKind.i64.wrap 0 = 0 := rfl
  cases hl : lightTB c with
  | false =>
    rw [hl] at f0
    refine con_of_body Tryz.func5 rfl Tryz.call5 (by rw [Tryz.ntmps5]; simp) ?_
    rw [Tryz.ntmps5, Tryz.results5]
    repeat (first | refine st0 ?_ | refine cC0 f0 ?_ | refine cC0 fa ?_)
    exact aR0
  | true =>
  rw [hl] at f0
  rcases chk_cases c with h | h | ⟨p, hp, h⟩
  · have h0 : (chk c).1 = 0 := by rw [h]
    have hF := full_of h0
    have hs := small_of h0
    have hlen := hF.few
    have htr := hF.ftr
    rw [h] at f4
    have f5 := table_con (nineTb ad) (ad 1) (ad 8) he (nineTb_tab ad) c h hcf
    have f6 := tabChart_con (nineTb ad) c hs
    have f7 := rSame_con (nineTb ad) c c hcf
    rw [beq_self_eq_true] at f7
    have f8 := tabEvents_con (nineTb ad) c (by omega)
    have f9 := rEvents28_con (nineTb ad) c (by omega)
    have hel := evL_len c
    have f10 := sameTexts_con (nineTb ad) (evL c) (evL c) (by omega)
    rw [decide_eq_true rfl] at f10
    have f11 := tabEvent_con (nineTb ad) c (by omega) s
    have f12 := rEvent28_con (nineTb ad) c (by omega) s
    have f13 := tabTree_con (nineTb ad) c
    have f14 := tlen_con (nineTb ad) c
    unfold treeAV at f13 f14
    unfold tabAV at f5 f6 f8 f11 f13
    generalize tabCells c = T at *
    refine con_of_body Tryz.func5 rfl Tryz.call5 (by rw [Tryz.ntmps5]; simp) ?_
    rw [Tryz.ntmps5, Tryz.results5]
    have F := w0
    repeat (first | refine st ?_ | refine cC f0 ?_ | refine cC n1 ?_ | refine cC n2 ?_ | refine cC n3 ?_ | refine cC n4 ?_ | refine cC n5 ?_ | refine cC n6 ?_ | refine cC n7 ?_ | refine cC n8 ?_ | refine cC n9 ?_ | refine cC n10 ?_ | refine cC n11 ?_ | refine cC f4 ?_ | refine cC f5 ?_ | refine cC f6 ?_ | refine cC f7 ?_ | refine cC f8 ?_ | refine cC f9 ?_ | refine cC f10 ?_ | refine cC f11 ?_ | refine cC f12 ?_ | refine cC f13 ?_ | refine cC f14 ?_ | refine cC fa ?_)
    exact aR
  · have f5 := tableE_con (nineTb ad) (ad 1) (ad 8) he c hcf (-1) (sentV (ad 8)) (chkAV_long h)
    rw [h] at f4
    have f6 := tells28_con (nineTb ad) ad (nineTb_sents ad) 8 (by omega) (-1) [-1, -1]
    have f7 := page3_con (nineTb ad) rfl (-1) (by omega) (ad 8)
    have f6 : Con Tryz.prog (nineTb ad) 37 [errV (-1) (errV (-1) (errV (-1) (sentV (ad 8)))), I 8] (B true) := f6
    generalize sentV (ad 8) = E at *
    refine con_of_body Tryz.func5 rfl Tryz.call5 (by rw [Tryz.ntmps5]; simp) ?_
    rw [Tryz.ntmps5, Tryz.results5]
    have F := w0
    repeat (first | refine st ?_ | refine cC f0 ?_ | refine cC n1 ?_ | refine cC n2 ?_ | refine cC n3 ?_ | refine cC n4 ?_ | refine cC n5 ?_ | refine cC n6 ?_ | refine cC n7 ?_ | refine cC n8 ?_ | refine cC n9 ?_ | refine cC n10 ?_ | refine cC n11 ?_ | refine cC f4 ?_ | refine cC f5 ?_ | refine cC f6 ?_ | refine cC f7 ?_ | refine cC fa ?_)
    exact aR
  · have f5 := tableE_con (nineTb ad) (ad 1) (ad 8) he c hcf p (sentV (ad 1)) (chkAV_form h)
    rw [h] at f4
    have f6 := tells28_con (nineTb ad) ad (nineTb_sents ad) 1 (by omega) (-1) [-1, p]
    have f7 := page3_con (nineTb ad) rfl p hp (ad 1)
    have f6 : Con Tryz.prog (nineTb ad) 37 [errV (-1) (errV (-1) (errV p (sentV (ad 1)))), I 1] (B true) := f6
    generalize sentV (ad 1) = E at *
    refine con_of_body Tryz.func5 rfl Tryz.call5 (by rw [Tryz.ntmps5]; simp) ?_
    rw [Tryz.ntmps5, Tryz.results5]
    have F := w0
    repeat (first | refine st ?_ | refine cC f0 ?_ | refine cC n1 ?_ | refine cC n2 ?_ | refine cC n3 ?_ | refine cC n4 ?_ | refine cC n5 ?_ | refine cC n6 ?_ | refine cC n7 ?_ | refine cC n8 ?_ | refine cC n9 ?_ | refine cC n10 ?_ | refine cC n11 ?_ | refine cC f4 ?_ | refine cC f5 ?_ | refine cC f6 ?_ | refine cC f7 ?_ | refine cC fa ?_)
    exact aR
end Go.Proofs.YtlmekdfleciejaaGreatDoor
set_option linter.unusedSimpArgs false
namespace Go.Proofs.YtlmekdfleciejaaGreatDoor
open Go.RowKit Go.ChangeShapes
theorem Tryz.tabArr : Tryz.prog.underlying 236 = some (.array 32 5) := by kernel_rfl
theorem cellsU8 : Tryz.prog.cellsOf 5 = 1 := by kernel_rfl
theorem tab_of {W : World} {g t : Nat} {cs : Array Value} {fuel : Nat} {p : List MemPlace} (hg : Tryz.prog.globalNamed "math/bits.deBruijn32tab" = some g) (ht : (Tryz.prog.globals[g]?).map (·.type) = some t) (hv : W.var? Tryz.prog "math/bits.deBruijn32tab" = some cs)
    (hd : DataW.trod (fun _ => ()) Tryz.prog W 0 (fun _ => true) false fuel t cs.toList = some (Rows.laid_math_bits_deBruijn32tab, p)) : TabAt W := by
  obtain rfl : 10 = g := Option.some.inj ((show Tryz.prog.globalNamed "math/bits.deBruijn32tab" = some 10 by kernel_rfl).symm.trans hg)
  obtain rfl : 236 = t := Option.some.inj ((show (Tryz.prog.globals[10]?).map (·.type) = some 236 by kernel_rfl).symm.trans ht)
  obtain ⟨xs, m, _, hx, _, hxl, hgx⟩ := DataW.trod_array Tryz.tabArr hd
  simp only [Prod.mk.injEq] at hx
  intro j hj
  have h1 := hgx j hj
  rw [cellsU8, Nat.mul_one] at h1
  have hjx : xs[j]? = some (xs[j]'(by omega)) := List.getElem?_eq_getElem _
  rw [hjx] at h1
  obtain ⟨nn, e1, e2, _⟩ := DataW.trod_int Tryz.underlying5 h1
  have hcell : cs[j]? = some (.int .u8 nn) := by
    have : ((cs.toList.drop j).take 1)[0]? = some (.int .u8 nn) := by rw [e1]; rfl
    rw [List.getElem?_take, if_pos (by omega), List.getElem?_drop, Nat.add_zero] at this
    simpa using this
  have hval : (Rows.laid_math_bits_deBruijn32tab : DataW Unit) = .agg (xs.map (·.1)) := hx.1
  have hlist : (xs.map (·.1))[j]? = (Lib.deBruijn32tab.map fun (k : Nat) => DataW.lit (H := Unit) (.int .u8 (k : Int)))[j]? := by
    have e : (Lib.deBruijn32tab.map fun (k : Nat) => DataW.lit (H := Unit) (.int .u8 (k : Int))) = xs.map (·.1) := by
      have : DataW.agg (Lib.deBruijn32tab.map fun (k : Nat) => DataW.lit (H := Unit) (.int .u8 (k : Int))) = DataW.agg (xs.map (·.1)) := by
        rw [← hval]
        rfl
      injection this
    rw [e]
  rw [List.getElem?_map, hjx, List.getElem?_map] at hlist
  have hdb : Lib.deBruijn32tab[j]? = some (Lib.deBruijn32tab.getD j 0) := by
    have : j < Lib.deBruijn32tab.length := by simpa [Lib.deBruijn32tab] using hj
    simp [List.getD, List.getElem?_eq_getElem this]
  rw [hdb] at hlist
  simp only [Option.map_some, Option.some.injEq, e2] at hlist
  have hn : nn = ((Lib.deBruijn32tab.getD j 0 : Nat) : Int) := by
    have := hlist
    injection this with this
    injection this
  rw [World.var?_cell hg hv j, hcell, hn]
theorem con_runT {P : Program} {env : Env} {f : FuncId} {cs : List AV} {u : Value} {w : World} {vs : List Value} (h : Con P env f cs (.lit u)) (hE : EnvOk env (fun b _ => b < w.heap.size) w) (hv : RAs (fun b _ => b < w.heap.size) w vs cs) :
    Calls P f vs.toArray w fun e w' => e = .returned u ∧ Below w.heap.size w w' := (con_call h hE (fun _ _ _ => by simp) hv).mono (by
  rintro e w' ⟨v, rfl, hb, _, hv⟩
  exact ⟨by rw [hv.lit_inv], hb⟩)
theorem str_rv {S : Nat → Nat → Prop} {w : World} (s : ByteArray) : RV S w (.string s) (Sg s.data.toList) := by
  have : (Value.string s) = .string ⟨s.data.toList.toArray⟩ := by simp
  rw [this]
  exact .lit _
end Go.Proofs.YtlmekdfleciejaaGreatDoor
set_option linter.unusedSimpArgs false
namespace Go.Proofs.YtlmekdfleciejaaGreatDoor
open Go.RowKit Go.ChangeShapes
theorem laid_news {W : World} (h : laidMetH Tryz.prog [("math/bits.deBruijn32tab", Rows.laid_math_bits_deBruijn32tab), ("errors.errorType", Rows.laid_errors_errorType), ("scrinium/api.ErrForm", Rows.laid_scrinium_api_ErrForm), ("scrinium/api.ErrRange", Rows.laid_scrinium_api_ErrRange), ("scrinium/api.ErrFull", Rows.laid_scrinium_api_ErrFull), ("scrinium/api.ErrNone", Rows.laid_scrinium_api_ErrNone), ("scrinium/api.ErrCorrupt", Rows.laid_scrinium_api_ErrCorrupt), ("scrinium/api.ErrFuel", Rows.laid_scrinium_api_ErrFuel), ("scrinium/api.ErrState", Rows.laid_scrinium_api_ErrState), ("scrinium/api.ErrLong", Rows.laid_scrinium_api_ErrLong), ("scrinium/api.ErrTwice", Rows.laid_scrinium_api_ErrTwice)] W) : (∃ ad, Sents W ad) ∧ TabAt W ∧ W.cell? ⟨9, 0, none⟩ = some errT := by
  have h' : laidMet Tryz.prog [("math/bits.deBruijn32tab", Rows.laid_math_bits_deBruijn32tab), ("scrinium/api.ErrForm", Rows.laid_scrinium_api_ErrForm), ("scrinium/api.ErrRange", Rows.laid_scrinium_api_ErrRange), ("scrinium/api.ErrFull", Rows.laid_scrinium_api_ErrFull), ("scrinium/api.ErrNone", Rows.laid_scrinium_api_ErrNone), ("scrinium/api.ErrCorrupt", Rows.laid_scrinium_api_ErrCorrupt), ("scrinium/api.ErrFuel", Rows.laid_scrinium_api_ErrFuel), ("scrinium/api.ErrState", Rows.laid_scrinium_api_ErrState), ("scrinium/api.ErrLong", Rows.laid_scrinium_api_ErrLong), ("scrinium/api.ErrTwice", Rows.laid_scrinium_api_ErrTwice)] W ∧ handlesMet Tryz.prog [("errors.errorType", Rows.laid_errors_errorType)] W := h
  have hT := handle_cell h'.2 (by simp)
  obtain ⟨ps, hv, hnd, hrows⟩ := h'.1
  obtain ⟨g0, t0, cs0, f0, p0, q0, hg0, ht0, hv0, hd0, hrest, rfl⟩ := hv
  refine ⟨sents_of_nine ?_, tab_of hg0 ht0 hv0 hd0, hT⟩
  rw [MakeChecks.laidMetH_plain _ _ _ (by kernel_rfl)]
  exact ⟨q0, hrest, (List.nodup_append.1 hnd).2.1, fun b off hh => hrows b off (List.mem_append_right _ hh)⟩
end Go.Proofs.YtlmekdfleciejaaGreatDoor
