/- tree.New, of a right chart. -/
import Derived.Test.YtlmekdfleciejaaGreatDoorM28
import Derived.Test.YtlmekdfleciejaaGreatDoorM8
set_option linter.unusedSimpArgs false
namespace Go.Proofs.YtlmekdfleciejaaGreatDoor
open Go.RowKit
set_option maxRecDepth 100000
set_option maxHeartbeats 4000000
theorem tnew_con (env : Env) (a1 a8 : Addr) (he : ChEnv env a1 a8) (hT : ∀ W, env.inv W → TabAt W) (c : ChD) (hc : Right c) (hch : chkAV a1 a8 c = .lit .nilIface) (hcf : few_ch c) : Con Tryz.prog env 87 [.agg (chAV c)] (.tuple [treeAV c, .lit .nilIface]) := by
  have hlen := hc.few
  have f0 := pCheck_con env a1 a8 he c hcf
  rw [hch] at f0
  refine con_of_bodyM Tryz.func87 rfl Tryz.call87 (by rw [Tryz.ntmps87]; simp) ?_
  rw [Tryz.ntmps87, Tryz.results87]
  have F := chAV.eq_1
  refine awpM_seqA ?_
  repeat (first | refine st ?_ | refine cC f0 ?_)
  refine awpM_seqA ?_
  repeat (first | refine st ?_ | refine cC f0 ?_)
  refine awpM_seqA ?_
  repeat (first | refine st ?_ | refine cC f0 ?_)
  have m0 : ¬ (c.states.length : Int) < 0 := by omega
  have m1 : ¬ (16777216 : Int) < (c.states.length : Int) := by omega
  have m2 : ¬ (281474976710656 : Int) < 4 * (c.states.length : Int) := by omega
  have m3 : ¬ (281474976710656 : Int) < 8 * (c.states.length : Int) := by omega
  have F := And.intro chAV.eq_1 <| And.intro m0 <| And.intro m1 <| And.intro m2 <| m3
  refine awpM_seqA ?_
  repeat (first | refine st ?_ | refine cC f0 ?_)
  refine awpM_seqA ?_
  repeat (first | refine st ?_ | refine cC f0 ?_)
  refine awp_nilcell 28 9000 0 0 ⟨7, [[nilS, nilS, .row 22 1, .row 24 1, .row 26 1, nilS, .lit (.int .u32 0)]], 129, false⟩ [nilS, nilS, .row 22 1, .row 24 1, .row 26 1, nilS, .lit (.int .u32 0)] 3 1 (by decide) (by decide) (Nat.succ_ne_zero 6) rfl rfl rfl (by simp only [go_sem, F]; exact iR) (by simp only [go_sem, F]; exact iR) ?_
  refine awp_nilcell 28 9001 0 1 ⟨7, [[.row 9000 1, nilS, .row 22 1, .row 24 1, .row 26 1, nilS, .lit (.int .u32 0)]], 129, false⟩ [.row 9000 1, nilS, .row 22 1, .row 24 1, .row 26 1, nilS, .lit (.int .u32 0)] 3 1 (by decide) (by decide) (Nat.succ_ne_zero 6) rfl rfl rfl (by simp only [go_sem, F]; exact iR) (by simp only [go_sem, F]; exact iR) ?_
  refine awp_loopH (D := Nat) (fun i vs' => [(1, .loc 1 (vs' 1) 0 0), (6, .loc 6 (vs' 6) 0 0), (30, stsAV c.states), (31, I c.states.length), (32, I i)])
    (fun i vs' => [(1, ⟨5, [chAV c], 26, false⟩), (6, ⟨1, [[.loc 28 (vs' 28) 0 0]], 47, false⟩), (28, ⟨7, [[.row 9000 (vs' 9000), .row 9001 (vs' 9001), .row 22 (vs' 22), .row 24 (vs' 24), .row 26 (vs' 26), nilS, .lit (.int .u32 (leafTo c i))]], 129, false⟩),
      (22, ⟨1, (mkTo c i).map umAV, 127, true⟩), (24, ⟨1, List.replicate c.states.length [.lit (.int .u32 0)], 127, true⟩), (26, ⟨1, List.replicate c.states.length [I 0], 3, true⟩),
      (9000, ⟨1, (c.states.take i).map fun s => [I s.parent], 3, true⟩), (9001, ⟨1, (c.states.take i).map fun s => [I s.kind], 3, true⟩)])
    (fun i vs' esc' => i ≤ c.states.length ∧ esc' 22 = false ∧ esc' 24 = false ∧ esc' 26 = false ∧ esc' 28 = false ∧ esc' 9000 = false ∧ esc' 9001 = false) (fun i => c.states.length - i) 0 ?_ ?_ ?_ ?_
  · refine ⟨Nat.zero_le _, ?_, ?_, ?_, ?_, ?_, ?_⟩ <;> simp only [go_sem]
  · (simp only [go_sem, F])
  · have F := And.intro chAV.eq_1 <| leafTo.eq_1
    (simp only [go_sem, F])
    rw [mkTo_zero]
  rintro i ws esc ⟨hi, e0, e1, e2, e3, e4, e5⟩
  by_cases hlt : i < c.states.length
  · obtain ⟨s, hs, _⟩ := some_at hlt
    have g1 := nlt hlt
    have g2 := wrap_succ hlt (by omega)
    have f1 := pReal_con env c i (by omega)
    have hpar := hc.par i s hs
    have hf : Fits (i + 1) 8 := ⟨by omega, by omega⟩
    have hti : (c.states.take i).length = i := by rw [List.length_take]; omega
    have htk : c.states.take (i + 1) = c.states.take i ++ [s] := by rw [List.take_add_one, hs]; rfl
    have hmi := mkTo_at (c := c) (i := i) hlt
    rw [if_neg (Nat.lt_irrefl i)] at hmi
    have hl : leafTo c (i + 1) = if leafB c i s then leafTo c i ||| 2 ^ i else leafTo c i := by
      show (match c.states[i]? with | some s => if leafB c i s then leafTo c i ||| 2 ^ i else leafTo c i | none => leafTo c i) = _
      rw [hs]
    have g6 := or_u32 (a := leafTo c i) (b := 2 ^ i) (leafTo_small (by omega)) (shl_one i (by omega))
    have g7 := shl_u32 (p := i) (by omega)
    by_cases hp : 0 ≤ s.parent
    · obtain ⟨p, hp⟩ : ∃ p : Nat, s.parent = p := ⟨s.parent.toNat, by omega⟩
      have hmp := mkTo_at (c := c) (i := i) (j := p) (by omega)
      rw [if_pos (by omega)] at hmp
      have g3 : ((p : Nat) : Int) < (c.states.length : Int) := by omega
      have g4 := shl_u32 (p := p) (by omega)
      have hnx : mask c i = mask c p ||| 2 ^ p := by
        have := mask_next hc (inZ_nat.2 hlt)
        rw [par_nat hs, hp] at this
        rw [this, if_pos (by omega), Int.toNat_natCast]
      have g5 := or_u32 (a := mask c p) (b := 2 ^ p) (mask_small hc (by omega)) (shl_one p (by omega))
      rw [← hnx] at g5
      have hms := mkTo_set (c := c) hlt
      cases q4 : (s.kind != 4) <;> cases q5 : (s.kind != 5) <;> cases q0 : (((kidsL c i true).length : Int) == 0)
      all_goals have F := And.intro chAV.eq_1 <| And.intro stAV.eq_1 <| And.intro g1 <| And.intro g2 <| And.intro g6 <| And.intro g7 <| And.intro hs <| And.intro hp <| And.intro hf <| And.intro hti <| And.intro hmi <| And.intro @mkTo_len <| And.intro umAV.eq_1 <| And.intro q4 <| And.intro q5 <| And.intro q0 <| And.intro e0 <| And.intro e1 <| And.intro e2 <| And.intro e3 <| And.intro e4 <| And.intro e5 <| And.intro g3 <| And.intro g4 <| And.intro g5 <| hmp
      all_goals (repeat (first | refine st ?_ | refine cC f1 ?_))
      all_goals (refine ⟨i + 1, ⟨hlt, ?_, ?_, ?_, ?_, ?_, ?_⟩, ?_, ?_, by omega⟩)
      all_goals (first | (show _ = false; simp only [go_sem, e0, e1, e2, e3, e4, e5]; done) | skip)
      all_goals have F := And.intro chAV.eq_1 <| And.intro stAV.eq_1 <| And.intro g1 <| And.intro g2 <| And.intro g6 <| And.intro g7 <| And.intro hs <| And.intro hp <| And.intro hf <| And.intro hti <| And.intro hmi <| And.intro @mkTo_len <| And.intro umAV.eq_1 <| And.intro q4 <| And.intro q5 <| And.intro q0 <| And.intro e0 <| And.intro e1 <| And.intro e2 <| And.intro e3 <| And.intro e4 <| And.intro e5 <| And.intro g3 <| And.intro g4 <| And.intro g5 <| And.intro hmp <| And.intro hl <| htk
      all_goals ((simp only [go_sem, leafB, List.map_append, ← hms, List.map_set, F]))
    · have hp : s.parent = -1 := by omega
      have hm0 : mask c i = 0 := by
        have := mask_next hc (inZ_nat.2 hlt)
        rw [par_nat hs, hp] at this
        rw [this, if_neg (by omega)]
      have hms := mkTo_same hlt hm0
      cases q4 : (s.kind != 4) <;> cases q5 : (s.kind != 5) <;> cases q0 : (((kidsL c i true).length : Int) == 0)
      all_goals have F := And.intro chAV.eq_1 <| And.intro stAV.eq_1 <| And.intro g1 <| And.intro g2 <| And.intro g6 <| And.intro g7 <| And.intro hs <| And.intro hp <| And.intro hf <| And.intro hti <| And.intro hmi <| And.intro @mkTo_len <| And.intro umAV.eq_1 <| And.intro q4 <| And.intro q5 <| And.intro q0 <| And.intro e0 <| And.intro e1 <| And.intro e2 <| And.intro e3 <| And.intro e4 <| e5
      all_goals (repeat (first | refine st ?_ | refine cC f1 ?_))
      all_goals (refine ⟨i + 1, ⟨hlt, ?_, ?_, ?_, ?_, ?_, ?_⟩, ?_, ?_, by omega⟩)
      all_goals (first | (show _ = false; simp only [go_sem, e0, e1, e2, e3, e4, e5]; done) | skip)
      all_goals have F := And.intro chAV.eq_1 <| And.intro stAV.eq_1 <| And.intro g1 <| And.intro g2 <| And.intro g6 <| And.intro g7 <| And.intro hs <| And.intro hp <| And.intro hf <| And.intro hti <| And.intro hmi <| And.intro @mkTo_len <| And.intro umAV.eq_1 <| And.intro q4 <| And.intro q5 <| And.intro q0 <| And.intro e0 <| And.intro e1 <| And.intro e2 <| And.intro e3 <| And.intro e4 <| And.intro e5 <| And.intro hl <| And.intro htk <| hms
      all_goals ((simp only [go_sem, leafB, List.map_append, F]))
  obtain rfl : i = c.states.length := by omega
  have g1 : ¬ (c.states.length : Int) < (c.states.length : Int) := by omega
  have hta : c.states.take c.states.length = c.states := List.take_length
  have F := And.intro chAV.eq_1 <| And.intro g1 <| And.intro e0 <| And.intro e1 <| And.intro e2 <| And.intro e3 <| And.intro e4 <| And.intro e5 <| hta
  repeat (first | refine st ?_ | refine cC f0 ?_)
  refine awpM_seq ?_
  refine awpM_seqA ?_
  repeat (first | refine st ?_ | refine cC f0 ?_)
  refine awpM_block ?_
  refine awpM_loop (D := Nat) (fun i vs' => [(1, .loc 1 (vs' 1) 0 0), (6, .loc 6 (vs' 6) 0 0), (108, .row 22 (vs' 22)), (109, I c.states.length), (110, I i)])
    (fun i vs' => [(1, ⟨5, [chAV c], 26, false⟩), (6, ⟨1, [[.loc 28 (vs' 28) 0 0]], 47, false⟩), (28, ⟨7, [[.row 9000 (vs' 9000), .row 9001 (vs' 9001), .row 22 (vs' 22), .row 24 (vs' 24), .row 26 (vs' 26), nilS, .lit (.int .u32 (leafTo c c.states.length))]], 129, false⟩),
      (22, ⟨1, (mkTo c c.states.length).map umAV, 127, true⟩), (24, ⟨1, (bnTo c i).map umAV, 127, true⟩), (26, ⟨1, List.replicate c.states.length [I 0], 3, true⟩),
      (9000, ⟨1, c.states.map fun s => [I s.parent], 3, true⟩), (9001, ⟨1, c.states.map fun s => [I s.kind], 3, true⟩)])
    (fun i vs' esc' => i ≤ c.states.length ∧ esc' 22 = false ∧ esc' 24 = false ∧ esc' 26 = false ∧ esc' 28 = false ∧ esc' 9000 = false ∧ esc' 9001 = false) (fun i => c.states.length - i) 0 ?_ ?_ ?_ ?_
  · refine ⟨Nat.zero_le _, ?_, ?_, ?_, ?_, ?_, ?_⟩ <;> simp only [go_sem, e0, e1, e2, e3, e4, e5]
  · have F := @mkTo_len
    (simp only [go_sem, F])
  · have F := And.intro chAV.eq_1 <| hta
    (simp only [go_sem, F])
    rw [bnTo_zero]
  try clear e0 e1 e2 e3 e4 e5
  rintro i ws esc ⟨hi, e0, e1, e2, e3, e4, e5⟩
  by_cases hlt : i < c.states.length
  · have g1 := nlt hlt
    have g2 := wrap_succ hlt (by omega)
    have hm := mkTo_at (c := c) (i := c.states.length) hlt
    rw [if_pos hlt] at hm
    have F := And.intro chAV.eq_1 <| And.intro g1 <| And.intro g2 <| And.intro hm <| And.intro @mkTo_len <| And.intro umAV.eq_1 <| And.intro e0 <| And.intro e1 <| And.intro e2 <| And.intro e3 <| And.intro e4 <| e5
    refine awpM_seqA ?_
    repeat (first | refine st ?_ | refine cC f0 ?_)
    refine awpM_seqA ?_
    repeat (first | refine st ?_ | refine cC f0 ?_)
    refine awpM_seq ?_
    refine awpM_block ?_
    refine awpM_seqA ?_
    repeat (first | refine st ?_ | refine cC f0 ?_)
    refine awpM_seqA ?_
    repeat (first | refine st ?_ | refine cC f0 ?_)
    refine awpM_block ?_
    refine awpM_range (D := Unit) (f := 136) (first := #[.int .u32 (mask c i)]) (ks := (setOf (mask c i)).map (Value.int .i64))
      (fun m _ vs' => [(1, ⟨5, [chAV c], 26, false⟩), (6, ⟨1, [[.loc 28 (vs' 28) 0 0]], 47, false⟩), (9, ⟨1, [[I i]], 3, false⟩), (28, ⟨7, [[.row 9000 (vs' 9000), .row 9001 (vs' 9001), .row 22 (vs' 22), .row 24 (vs' 24), .row 26 (vs' 26), nilS, .lit (.int .u32 (leafTo c c.states.length))]], 129, false⟩),
        (22, ⟨1, (mkTo c c.states.length).map umAV, 127, true⟩), (24, ⟨1, (bnMid c i m).map umAV, 127, true⟩), (26, ⟨1, List.replicate c.states.length [I 0], 3, true⟩),
        (9000, ⟨1, c.states.map fun s => [I s.parent], 3, true⟩), (9001, ⟨1, c.states.map fun s => [I s.kind], 3, true⟩)])
      (fun m _ vs' esc' => (vs' 1 = ws 1 ∧ vs' 6 = ws 6 ∧ vs' 22 = ws 22 ∧ vs' 9 = ws 9 + 1) ∧ esc' 22 = false ∧ esc' 24 = false ∧ esc' 26 = false ∧ esc' 28 = false ∧ esc' 9000 = false ∧ esc' 9001 = false) ()
      (by simp only [go_sem, hm, umAV]) (by decide) ((each_iters (mask c i) (mask_small hc (by omega))).mono hT) ?_ ?_ ?_ ?_
    · refine ⟨⟨?_, ?_, ?_, ?_⟩, ?_, ?_, ?_, ?_, ?_, ?_⟩ <;> simp only [go_sem, e0, e1, e2, e3, e4, e5]
    · (simp only [go_sem, F])
      rw [bnMid_zero]
    · rintro m _ v vs' esc' - ⟨⟨q1, q2, q3, q4⟩, e0, e1, e2, e3, e4, e5⟩ hk
      obtain ⟨k, hkL, rfl⟩ : ∃ k, (bitL (mask c i))[m]? = some k ∧ v = .int .i64 (k : Nat) := by
        rw [setOf_bitL, List.map_map, List.getElem?_map] at hk
        obtain ⟨k, h1, h2⟩ := Option.map_eq_some_iff.1 hk
        exact ⟨k, h1, h2.symm⟩
      have hki := bitL_above hc hkL
      have g3 : ((k : Nat) : Int) < (c.states.length : Int) := by omega
      have hb := bnMid_at hkL (by omega)
      have hs := bnMid_set hkL (by omega)
      have g4 := shl_u32 (p := i) (by omega)
      have g5 := or_u32 (a := benN c i k) (b := 2 ^ i) (benN_small k (by omega)) (shl_one i (by omega))
      have F := And.intro chAV.eq_1 <| And.intro q1 <| And.intro q2 <| And.intro q3 <| And.intro q4 <| And.intro g3 <| And.intro g4 <| And.intro g5 <| And.intro hb <| And.intro @bnMid_len <| And.intro umAV.eq_1 <| And.intro e0 <| And.intro e1 <| And.intro e2 <| And.intro e3 <| And.intro e4 <| e5
      repeat refine st ?_
      refine ⟨(), ⟨⟨?_, ?_, ?_, ?_⟩, ?_, ?_, ?_, ?_, ?_, ?_⟩, ?_⟩
      all_goals (first | (simp only [go_sem, q1, q2, q3, q4, e0, e1, e2, e3, e4, e5]; done) | skip)
      have F := And.intro chAV.eq_1 <| And.intro q1 <| And.intro q2 <| And.intro q3 <| And.intro q4 <| umAV.eq_1
      (simp only [go_sem, ← hs, List.map_set, F])
    · rintro _ vs' esc' - ⟨⟨q1, q2, q3, q4⟩, e0, e1, e2, e3, e4, e5⟩
      have hks : (setOf (mask c i)).length = (bitL (mask c i)).length := by rw [setOf_bitL, List.length_map]
      have hall := bnMid_all (c := c) hlen i
      refine awpM_of ?_
      have F := And.intro chAV.eq_1 <| And.intro q1 <| And.intro q2 <| And.intro q3 <| And.intro q4 <| And.intro g1 <| g2
      repeat refine st ?_
      refine ⟨i + 1, ⟨hlt, ?_, ?_, ?_, ?_, ?_, ?_⟩, ?_, ?_, by omega⟩
      all_goals (first | (show _ = false; simp only [go_sem, e0, e1, e2, e3, e4, e5]; done) | skip)
      · have F := And.intro chAV.eq_1 <| And.intro q1 <| And.intro q2 <| And.intro q3 <| q4
        (simp only [go_sem, F])
      · have F := And.intro chAV.eq_1 <| And.intro q1 <| And.intro q2 <| And.intro q3 <| And.intro q4 <| And.intro hks <| hall
        (simp only [go_sem, F])
  · obtain rfl : i = c.states.length := by omega
    have g1 : ¬ (c.states.length : Int) < (c.states.length : Int) := by omega
    have F := And.intro chAV.eq_1 <| And.intro g1 <| And.intro e0 <| And.intro e1 <| And.intro e2 <| And.intro e3 <| And.intro e4 <| e5
    refine awpM_seqA ?_
    repeat refine st ?_
    refine awpM_seqA ?_
    repeat refine st ?_
    refine awpM_of ?_
    refine awp_nilcell 28 9002 0 5 ⟨7, [[.row 9000 (ws 9000), .row 9001 (ws 9001), .row 22 (ws 22), .row 24 (ws 24), .row 26 (ws 26), nilS, .lit (.int .u32 (leafTo c c.states.length))]], 129, false⟩ [.row 9000 (ws 9000), .row 9001 (ws 9001), .row 22 (ws 22), .row 24 (ws 24), .row 26 (ws 26), nilS, .lit (.int .u32 (leafTo c c.states.length))] 3 1 (by decide) (by decide) (Nat.succ_ne_zero 6) rfl rfl rfl (by simp only [go_sem, F]; exact iR) (by simp only [go_sem, F]; exact iR) ?_
    refine awp_seesR [(9000, ⟨1, c.states.map fun s => [I s.parent], 3, true⟩), (9001, ⟨1, c.states.map fun s => [I s.kind], 3, true⟩), (22, ⟨1, (mkTo c c.states.length).map umAV, 127, true⟩), (24, ⟨1, (bnTo c c.states.length).map umAV, 127, true⟩)] ?_ ?_
    · (simp only [go_sem, F])
    refine awp_head [(1, .loc 1 (ws 1) 0 0), (6, .loc 6 (ws 6) 0 0)] [(1, ⟨5, [chAV c], 26, false⟩), (6, ⟨1, [[.loc 28 (ws 28) 0 0]], 47, false⟩), (28, ⟨7, [[.seq 1 (c.states.map fun s => [I s.parent]), .seq 1 (c.states.map fun s => [I s.kind]), .seq 1 ((mkTo c c.states.length).map umAV), .seq 1 ((bnTo c c.states.length).map umAV), .row 26 (ws 26), .row 9002 (ws 9002 + 1), .lit (.int .u32 (leafTo c c.states.length))]], 129, false⟩),
      (26, ⟨1, List.replicate c.states.length [I 0], 3, true⟩), (9002, ⟨1, [], 3, true⟩)] ?_ ?_ ?_
    · (simp only [go_sem, seenSt, seesR, seeAt, Row.see, AV.see, AV.see.seeL, Option.getD_none])
    · have F := chAV.eq_1
      (simp only [go_sem, seenSt, seesR, seeAt, Row.see, AV.see, AV.see.seeL, Option.getD_none, F])
    have hwl := walk_len hc
    have f1 : WalkC Tryz.prog env 137 c (c.states.map fun s => [I s.parent]) (c.states.map fun s => [I s.kind]) ((mkTo c c.states.length).map umAV) ((bnTo c c.states.length).map umAV) (.int .u32 (leafTo c c.states.length)) (-1) [] (List.replicate c.states.length 0) :=
      walk_con env c hc _ _ _ _ _ 40 (-1) [] (List.replicate c.states.length 0) (by omega) (by omega) (by simp) (by simp; omega)
    unfold WalkC at f1
    have F := And.intro chAV.eq_1 <| And.intro natAV.eq_1 <| And.intro e0 <| And.intro e1 <| And.intro e2 <| And.intro e3 <| And.intro e4 <| e5
    repeat (first | refine oO rfl (by simp only [go_sem, TR, List.map_replicate, seenSt, seesR, F]; exact ⟨rfl, rfl⟩) ?_ | refine gR ?_ | refine gO ?_ | refine oZ (d_end ?_) | refine oZ ?_ | refine oS ?_ | refine gT ?_ | refine gD Tryz.mixed ?_ | refine oB ?_ | refine oK ?_ | (refine oX ?_; simp only [thenA, blockA, ↓reduceIte, Nat.reduceEqDiff, reduceCtorEq]) | refine oY (by simp only [go_sem, TR, List.map_replicate, seenSt, seesR, F]; exact iR) ?_ | refine oN (by simp only [go_sem, TR, List.map_replicate, seenSt, seesR, F]; exact iR) ?_)
    refine aops_inl [(1000, 28), (1001, 26), (1002, 9002)] rfl (f1) (by decide) (by decide) (by simp only [go_sem, TR, List.map_replicate, seenSt, seesR, F] <;> rfl) (by simp only [go_sem, TR, List.map_replicate, seenSt, seesR, F, and_self] <;> trivial) (by simp only [go_sem, TR, List.map_replicate, seenSt, seesR, F, and_self] <;> trivial) (by intro o; simp only [go_sem, TR, List.map_replicate, seenSt, seesR, F, behind, and_self] <;> trivial) (by intro o; simp only [go_sem, TR, List.map_replicate, seenSt, seesR, F] <;> rfl) (by simp only [go_sem, TR, List.map_replicate, seenSt, seesR, F, behind]; exact iR) (by simp only [go_sem, TR, List.map_replicate, seenSt, seesR, F, behind]; exact iR) ?_
    repeat (first | refine oO rfl (by simp only [go_sem, TR, List.map_replicate, seenSt, seesR, F]; exact ⟨rfl, rfl⟩) ?_ | refine gR ?_ | refine gO ?_ | refine oZ (d_end ?_) | refine oZ ?_ | refine oS ?_ | refine gT ?_ | refine gD Tryz.mixed ?_ | refine oB ?_ | refine oK ?_ | (refine oX ?_; simp only [thenA, blockA, ↓reduceIte, Nat.reduceEqDiff, reduceCtorEq]) | refine oY (by simp only [go_sem, TR, List.map_replicate, seenSt, seesR, F]; exact iR) ?_ | refine oN (by simp only [go_sem, TR, List.map_replicate, seenSt, seesR, F]; exact iR) ?_)
    refine awp_seesR [(26, ⟨1, (ranksL c).map natAV, 3, true⟩), (9002, ⟨1, (walkL c (-1)).map natAV, 3, true⟩)] ?_ ?_
    · (simp only [go_sem, ranksL])
    refine awp_head [(2, .loc 28 (ws 28) 0 0), (3, .lit .nilIface)] [(28, ⟨7, [[.seq 1 (c.states.map fun s => [I s.parent]), .seq 1 (c.states.map fun s => [I s.kind]), .seq 1 ((mkTo c c.states.length).map umAV), .seq 1 ((bnTo c c.states.length).map umAV), .seq 1 ((ranksL c).map natAV), .seq 1 ((walkL c (-1)).map natAV), .lit (.int .u32 (leafTo c c.states.length))]], 129, false⟩)] ?_ ?_ ?_
    · (simp only [go_sem, seenSt, seesR, seeAt, Row.see, AV.see, AV.see.seeL, Option.getD_none])
    · have F := chAV.eq_1
      (simp only [go_sem, seenSt, seesR, seeAt, Row.see, AV.see, AV.see.seeL, Option.getD_none, F])
    (refine awp_ret ?_; refine ⟨_, (by show (resRd _ _ _).run _ = some _; simp only [go_sem, seenSt, seesR]; rfl), ?_⟩)
    exact RStr.refl _
end Go.Proofs.YtlmekdfleciejaaGreatDoor
