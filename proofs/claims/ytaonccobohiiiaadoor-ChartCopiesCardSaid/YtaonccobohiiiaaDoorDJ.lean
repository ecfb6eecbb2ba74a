/- chart.Copy: whose slices are all new. -/
import Derived.Test.YtaonccobohiiiaaDoorVQ
import Derived.Test.YtaonccobohiiiaaDoorEvi
import Derived.Test.YtaonccobohiiiaaDoorSt
import Derived.Test.YtaonccobohiiiaaDoorHD
import Derived.Test.YtaonccobohiiiaaDoorHS
set_option linter.unusedSimpArgs false
namespace Go.Proofs.YtaonccobohiiiaaDoor
open Go.RowKit
set_option maxRecDepth 100000
set_option maxHeartbeats 4000000

theorem cloneOp_con (env : Env) (es : List (List AV)) (hl : Fits es.length 16) : Con Tryd.prog env 21 [.seq 2 es] (.own 39 2 es) := by
  cases es with
  | nil =>
    refine Con.empty fun A cap => ?_
    cases A with
    | none =>
      refine con_of_body_w Tryd.func21 rfl Tryd.call21 (by rw [Tryd.ntmps21]; simp) ?_
      rw [Tryd.ntmps21, Tryd.results21]
      repeat refine st0 ?_
      (refine awp_ret ?_; refine ⟨_, (by show (resRd _ _ _).run _ = some _; simp only [go_sem]; rfl), ?_⟩)
      exact RStr.own_nil _ _ (by decide)
    | some A =>
      refine con_of_body Tryd.func21 rfl Tryd.call21 (by rw [Tryd.ntmps21]; simp) ?_
      rw [Tryd.ntmps21, Tryd.results21]
      repeat refine st0 ?_
      exact aR0
  | cons d l =>
    have g1 : Fits ((l.length + 1)) 16 := by simpa using hl
    refine con_of_body Tryd.func21 rfl Tryd.call21 (by rw [Tryd.ntmps21]; simp) ?_
    rw [Tryd.ntmps21, Tryd.results21]
    have F := g1
    repeat refine st ?_
    exact aR
theorem cloneVar_con (env : Env) (es : List (List AV)) (hl : es.length ≤ 4096) : Con Tryd.prog env 19 [.seq 2 es] (.own 41 2 es) := by
  cases es with
  | nil =>
    refine Con.empty fun A cap => ?_
    cases A with
    | none =>
      refine con_of_body_w Tryd.func19 rfl Tryd.call19 (by rw [Tryd.ntmps19]; simp) ?_
      rw [Tryd.ntmps19, Tryd.results19]
      repeat refine st0 ?_
      (refine awp_ret ?_; refine ⟨_, (by show (resRd _ _ _).run _ = some _; simp only [go_sem]; rfl), ?_⟩)
      exact RStr.own_nil _ _ (by decide)
    | some A =>
      refine con_of_body Tryd.func19 rfl Tryd.call19 (by rw [Tryd.ntmps19]; simp) ?_
      rw [Tryd.ntmps19, Tryd.results19]
      repeat refine st0 ?_
      exact aR0
  | cons d l =>
    have g1 : Fits ((l.length + 1)) 24 := fits_small (by simpa using hl) (by omega)
    refine con_of_body Tryd.func19 rfl Tryd.call19 (by rw [Tryd.ntmps19]; simp) ?_
    rw [Tryd.ntmps19, Tryd.results19]
    have F := g1
    repeat refine st ?_
    exact aR
/-! Charts whose slices lie behind the n-th block -/
def actN (n : Nat) (x : ActD) : List AV := [I x.kind, I x.n, Sg x.name, .news n 2 (x.code.map opAV)]
def stN (n : Nat) (s : StD) : List AV := [Sg s.name, I s.kind, I s.parent, I s.initial, .news n 4 (s.inn.map (actN n)), .news n 4 (s.out.map (actN n))]
def trN (n : Nat) (t : TrD) : List AV := [I t.src, Sg t.event, .news n 2 (t.guard.map opAV), .news n 4 (t.acts.map (actN n)), I t.target]
def chN (n : Nat) (c : ChD) : List AV := [Sg c.name, I c.initial, .news n 2 (c.vars.map varAV), .news n 6 (c.states.map (stN n)), .news n 5 (c.trans.map (trN n))]
def fewN (l : List ActD) : Prop := l.length ≤ 4096 ∧ ∀ a ∈ l, Fits a.code.length 16
structure SmallN (c : ChD) : Prop where
  vars : c.vars.length ≤ 4096
  sts : c.states.length ≤ 4096
  trs : c.trans.length ≤ 4096
  st : ∀ s ∈ c.states, fewN s.inn ∧ fewN s.out
  tr : ∀ t ∈ c.trans, Fits t.guard.length 16 ∧ fewN t.acts
theorem copyActsN_con (env : Env) (n : Nat) (hinv : ∀ W, env.inv W → n ≤ W.heap.size) (l : List ActD) (hl : fewN l) : Con Tryd.prog env 20 [actsAV l] (.own 35 4 (l.map (actN n))) := by
  have h1 := hl.1
  refine con_of_body Tryd.func20 rfl Tryd.call20 (by rw [Tryd.ntmps20]; simp) ?_
  rw [Tryd.ntmps20, Tryd.results20]
  repeat refine st0 ?_
  refine awp_nilrow 3 3 35 4 ?_
  refine awp_loopH (D := Nat) (fun j vs => [(3, .row 3 (vs 3)), (6, actsAV l), (7, I l.length), (8, I j)]) (fun j _ => [(3, ⟨4, (l.take j).map (actN n), 35, true⟩)]) (fun j _ esc => j ≤ l.length ∧ esc 3 = false) (fun j => l.length - j) 0 ?_ ?_ ?_ ?_
  · exact ⟨Nat.zero_le _, rfl⟩
  · (simp only [go_sem])
  · (simp only [go_sem])
  rintro j ws esc ⟨hj, e0⟩
  by_cases hlt : j < l.length
  · obtain ⟨a, ha⟩ : ∃ a, l[j]? = some a := ⟨l[j], List.getElem?_eq_getElem hlt⟩
    have g1 := nlt hlt
    have g2 := wrap_succ hlt (by omega)
    have f0 := cloneOp_con env (a.code.map opAV) (by rw [List.length_map]; exact hl.2 a (List.mem_of_getElem? ha))
    have htl : (l.take j).length = j := by rw [List.length_take]; omega
    have hf : Fits (j + 1) 56 := fits_small (by omega) (by omega)
    have htk : l.take (j + 1) = l.take j ++ [a] := by rw [List.take_add_one, ha]; rfl
    have F := And.intro actAV.eq_1 <| And.intro g1 <| And.intro g2 <| And.intro ha <| And.intro htl <| And.intro hf <| e0
    refine awp_seqH ?_
    repeat (first | refine st ?_ | refine cC f0 ?_)
    refine Halt.mk ?_
    refine awp_seqH ?_
    repeat (first | refine st ?_ | refine cC f0 ?_)
    refine Halt.mk ?_
    refine awp_seqH ?_
    refine oB ?_
    refine awp_seqH ?_
    repeat (first | refine st ?_ | refine cC f0 ?_)
    refine Halt.mk ?_
    refine awp_seqH ?_
    repeat (first | refine st ?_ | refine cC f0 ?_)
    refine Halt.mk ?_
    refine awp_newsH n hinv [(14, ⟨2, a.code.map opAV, 39, true⟩)] (fun vs => [(3, .row 3 (vs 3)), (5, .loc 5 (vs 5) 0 0), (6, actsAV l), (7, I l.length), (8, I j)])
      (fun vs => [(3, ⟨4, (l.take j).map (actN n), 35, true⟩), (5, ⟨4, [actN n a], 35, false⟩)]) (fun esc => esc 3 = false ∧ esc 5 = false) ?_ ?_ ?_ ?_ ?_
    · (simp only [go_sem, F])
    · (simp only [go_sem, newsSt, newsL, newsOf, seesR, seeAt, Row.see, AV.see, AV.see.seeL, Option.getD_none, List.any_cons, List.any_nil])
    · (simp only [go_sem, actN, newsSt, newsL, newsOf, seesR, seeAt, Row.see, AV.see, AV.see.seeL, Option.getD_none, List.any_cons, List.any_nil])
    · refine ⟨?_, ?_⟩ <;> simp only [go_sem, newsSt, seesR, List.map_cons, List.map_nil, List.any_cons, List.any_nil, Bool.or_false, e0] <;> rfl
    try clear e0 ws esc
    rintro ws esc ⟨e0, e5⟩
    have F := And.intro g1 <| And.intro g2 <| And.intro htl <| And.intro hf <| And.intro e0 <| e5
    repeat (first | refine oO rfl (by simp only [go_sem, actN, F]; exact ⟨rfl, rfl⟩) ?_ | refine gR ?_ | refine gO ?_ | refine oZ (d_end ?_) | refine oZ ?_ | refine oS ?_ | refine gT ?_ | refine gD Tryd.mixed ?_ | refine oB ?_ | refine oK ?_ | (refine oX ?_; simp only [thenA, blockA, ↓reduceIte, Nat.reduceEqDiff, reduceCtorEq]) | refine oY (by simp only [go_sem, actN, F]; exact iR) ?_ | refine oN (by simp only [go_sem, actN, F]; exact iR) ?_)
    refine Halt.mk ?_
    repeat (first | refine oO rfl (by simp only [go_sem, actN, F]; exact ⟨rfl, rfl⟩) ?_ | refine gR ?_ | refine gO ?_ | refine oZ (d_end ?_) | refine oZ ?_ | refine oS ?_ | refine gT ?_ | refine gD Tryd.mixed ?_ | refine oB ?_ | refine oK ?_ | (refine oX ?_; simp only [thenA, blockA, ↓reduceIte, Nat.reduceEqDiff, reduceCtorEq]) | refine oY (by simp only [go_sem, actN, F]; exact iR) ?_ | refine oN (by simp only [go_sem, actN, F]; exact iR) ?_)
    refine ⟨j + 1, ⟨hlt, by simp only [go_sem, e0]⟩, ?_, ?_, by omega⟩
    · (simp only [go_sem, actN, F])
    · have F := htk
      (simp only [go_sem, actN, List.map_append, F])
  · obtain rfl : j = l.length := by omega
    have g1 : ¬ (l.length : Int) < (l.length : Int) := by omega
    have hta : l.take l.length = l := List.take_length
    have F := And.intro g1 <| And.intro hta <| e0
    repeat refine st ?_
    exact aR
theorem pCopyN_con (env : Env) (n : Nat) (hinv : ∀ W, env.inv W → n ≤ W.heap.size) (c : ChD) (hs : SmallN c) : Con Tryd.prog env 8 [.agg (chAV c)] (.agg (chN n c)) := by
  have hn1 := hs.sts
  have hn2 := hs.trs
  have f0 := cloneVar_con env (c.vars.map varAV) (by rw [List.length_map]; exact hs.vars)
  refine con_of_body Tryd.func8 rfl Tryd.call8 (by rw [Tryd.ntmps8]; simp) ?_
  rw [Tryd.ntmps8, Tryd.results8]
  have F := chAV.eq_1
  repeat (first | refine st ?_ | refine cC f0 ?_)
  refine awp_nilcell 3 9000 0 3 ⟨5, [[Sg c.name, I c.initial, .row 14 1, nilS, nilS]], 26, false⟩ [Sg c.name, I c.initial, .row 14 1, nilS, nilS] 32 6 (by decide) (by decide) (Nat.succ_ne_zero 4) rfl rfl rfl (by simp only [go_sem, F]; exact iR) (by simp only [go_sem, F]; exact iR) ?_
  refine awp_nilcell 3 9001 0 4 ⟨5, [[Sg c.name, I c.initial, .row 14 1, .row 9000 1, nilS]], 26, false⟩ [Sg c.name, I c.initial, .row 14 1, .row 9000 1, nilS] 37 5 (by decide) (by decide) (Nat.succ_ne_zero 4) rfl rfl rfl (by simp only [go_sem, F]; exact iR) (by simp only [go_sem, F]; exact iR) ?_
  refine awp_loopH (D := Nat) (fun j vs => [(1, .loc 1 (vs 1) 0 0), (2, .loc 2 (vs 2) 0 0), (3, .loc 3 (vs 3) 0 0), (17, stsAV c.states), (18, I c.states.length), (19, I j)])
    (fun j vs => [(1, ⟨5, [chAV c], 26, false⟩), (2, ⟨5, [[Sg [], I 0, nilS, nilS, nilS]], 26, false⟩), (3, ⟨5, [[Sg c.name, I c.initial, .row 14 (vs 14), .row 9000 (vs 9000), .row 9001 (vs 9001)]], 26, false⟩), (14, ⟨2, c.vars.map varAV, 41, true⟩), (9000, ⟨6, (c.states.take j).map (stN n), 32, true⟩), (9001, ⟨5, [], 37, true⟩)])
    (fun j _ esc => j ≤ c.states.length ∧ esc 2 = false ∧ esc 3 = false ∧ esc 14 = false ∧ esc 9000 = false ∧ esc 9001 = false) (fun j => c.states.length - j) 0 ?_ ?_ ?_ ?_
  · refine ⟨Nat.zero_le _, ?_, ?_, ?_, ?_, ?_⟩ <;> simp only [go_sem]
  · (simp only [go_sem, F])
  · have F := chAV.eq_1
    (simp only [go_sem, F])
  rintro j ws esc ⟨hj, e0, e1, e2, e3, e4⟩
  by_cases hlt : j < c.states.length
  · obtain ⟨s, hss⟩ : ∃ s, c.states[j]? = some s := ⟨c.states[j], List.getElem?_eq_getElem hlt⟩
    have g1 := nlt hlt
    have g2 := wrap_succ hlt (by omega)
    have f1 := copyActsN_con env n hinv s.inn (hs.st s (List.mem_of_getElem? hss)).1
    have f2 := copyActsN_con env n hinv s.out (hs.st s (List.mem_of_getElem? hss)).2
    have htl : (c.states.take j).length = j := by rw [List.length_take]; omega
    have hf : Fits (j + 1) 88 := fits_small (by omega) (by omega)
    have htk : c.states.take (j + 1) = c.states.take j ++ [s] := by rw [List.take_add_one, hss]; rfl
    have F := And.intro chAV.eq_1 <| And.intro stAV.eq_1 <| And.intro g1 <| And.intro g2 <| And.intro hss <| And.intro htl <| And.intro hf <| And.intro e0 <| And.intro e1 <| And.intro e2 <| And.intro e3 <| e4
    refine awp_seqH ?_
    repeat (first | refine st ?_ | refine cC f1 ?_ | refine cC f2 ?_)
    refine Halt.mk ?_
    refine awp_seqH ?_
    repeat (first | refine st ?_ | refine cC f1 ?_ | refine cC f2 ?_)
    refine Halt.mk ?_
    refine awp_seqH ?_
    refine oB ?_
    refine awp_seqH ?_
    repeat (first | refine st ?_ | refine cC f1 ?_ | refine cC f2 ?_)
    refine Halt.mk ?_
    refine awp_seqH ?_
    repeat (first | refine st ?_ | refine cC f1 ?_ | refine cC f2 ?_)
    refine Halt.mk ?_
    refine awp_newsH n hinv [(25, ⟨4, s.inn.map (actN n), 35, true⟩), (28, ⟨4, s.out.map (actN n), 35, true⟩)] (fun vs => [(1, .loc 1 (vs 1) 0 0), (2, .loc 2 (vs 2) 0 0), (3, .loc 3 (vs 3) 0 0), (5, .loc 5 (vs 5) 0 0), (17, stsAV c.states), (18, I c.states.length), (19, I j)])
      (fun vs => [(1, ⟨5, [chAV c], 26, false⟩), (2, ⟨5, [[Sg [], I 0, nilS, nilS, nilS]], 26, false⟩), (3, ⟨5, [[Sg c.name, I c.initial, .row 14 (vs 14), .row 9000 (vs 9000), .row 9001 (vs 9001)]], 26, false⟩), (5, ⟨6, [stN n s], 32, false⟩), (14, ⟨2, c.vars.map varAV, 41, true⟩), (9000, ⟨6, (c.states.take j).map (stN n), 32, true⟩), (9001, ⟨5, [], 37, true⟩)])
      (fun esc => esc 2 = false ∧ esc 3 = false ∧ esc 5 = false ∧ esc 14 = false ∧ esc 9000 = false ∧ esc 9001 = false) ?_ ?_ ?_ ?_ ?_
    · (simp only [go_sem, F])
    · have F := chAV.eq_1
      (simp only [go_sem, newsSt, newsL, newsOf, seesR, seeAt, Row.see, AV.see, AV.see.seeL, Option.getD_none, List.any_cons, List.any_nil, F])
    · have F := chAV.eq_1
      (simp only [go_sem, stN, newsSt, newsL, newsOf, seesR, seeAt, Row.see, AV.see, AV.see.seeL, Option.getD_none, List.any_cons, List.any_nil, F])
    · refine ⟨?_, ?_, ?_, ?_, ?_, ?_⟩ <;> simp only [go_sem, newsSt, seesR, List.map_cons, List.map_nil, List.any_cons, List.any_nil, Bool.or_false, e0, e1, e2, e3, e4] <;> rfl
    try clear e0 e1 e2 e3 e4 ws esc
    rintro ws esc ⟨e0, e1, e5, e2, e3, e4⟩
    have F := And.intro chAV.eq_1 <| And.intro g1 <| And.intro g2 <| And.intro htl <| And.intro hf <| And.intro e0 <| And.intro e1 <| And.intro e2 <| And.intro e3 <| And.intro e4 <| e5
    repeat (first | refine oO rfl (by simp only [go_sem, stN, F]; exact ⟨rfl, rfl⟩) ?_ | refine gR ?_ | refine gO ?_ | refine oZ (d_end ?_) | refine oZ ?_ | refine oS ?_ | refine gT ?_ | refine gD Tryd.mixed ?_ | refine oB ?_ | refine oK ?_ | (refine oX ?_; simp only [thenA, blockA, ↓reduceIte, Nat.reduceEqDiff, reduceCtorEq]) | refine oY (by simp only [go_sem, stN, F]; exact iR) ?_ | refine oN (by simp only [go_sem, stN, F]; exact iR) ?_)
    refine Halt.mk ?_
    repeat (first | refine oO rfl (by simp only [go_sem, stN, F]; exact ⟨rfl, rfl⟩) ?_ | refine gR ?_ | refine gO ?_ | refine oZ (d_end ?_) | refine oZ ?_ | refine oS ?_ | refine gT ?_ | refine gD Tryd.mixed ?_ | refine oB ?_ | refine oK ?_ | (refine oX ?_; simp only [thenA, blockA, ↓reduceIte, Nat.reduceEqDiff, reduceCtorEq]) | refine oY (by simp only [go_sem, stN, F]; exact iR) ?_ | refine oN (by simp only [go_sem, stN, F]; exact iR) ?_)
    refine ⟨j + 1, ⟨hlt, ?_, ?_, ?_, ?_, ?_⟩, ?_, ?_, by omega⟩
    all_goals (first | (show _ = false; simp only [go_sem, e0, e1, e2, e3, e4]; done) | skip)
    · (simp only [go_sem, stN, F])
    · have F := And.intro chAV.eq_1 <| htk
      (simp only [go_sem, stN, List.map_append, F])
  obtain rfl : j = c.states.length := by omega
  have g1 : ¬ (c.states.length : Int) < (c.states.length : Int) := by omega
  have hta : c.states.take c.states.length = c.states := List.take_length
  have F := And.intro chAV.eq_1 <| And.intro g1 <| And.intro hta <| And.intro e0 <| And.intro e1 <| And.intro e2 <| And.intro e3 <| e4
  repeat refine st ?_
  try clear g1
  refine awp_loopH (D := Nat) (fun j vs => [(1, .loc 1 (vs 1) 0 0), (2, .loc 2 (vs 2) 0 0), (3, .loc 3 (vs 3) 0 0), (39, trsAV c.trans), (40, I c.trans.length), (41, I j)])
    (fun j vs => [(1, ⟨5, [chAV c], 26, false⟩), (2, ⟨5, [[Sg [], I 0, nilS, nilS, nilS]], 26, false⟩), (3, ⟨5, [[Sg c.name, I c.initial, .row 14 (vs 14), .row 9000 (vs 9000), .row 9001 (vs 9001)]], 26, false⟩), (14, ⟨2, c.vars.map varAV, 41, true⟩), (9000, ⟨6, c.states.map (stN n), 32, true⟩), (9001, ⟨5, (c.trans.take j).map (trN n), 37, true⟩)])
    (fun j _ esc => j ≤ c.trans.length ∧ esc 2 = false ∧ esc 3 = false ∧ esc 14 = false ∧ esc 9000 = false ∧ esc 9001 = false) (fun j => c.trans.length - j) 0 ?_ ?_ ?_ ?_
  · refine ⟨Nat.zero_le _, ?_, ?_, ?_, ?_, ?_⟩ <;> simp only [go_sem, e0, e1, e2, e3, e4]
  · (simp only [go_sem, F])
  · have F := chAV.eq_1
    (simp only [go_sem, F])
  try clear e0 e1 e2 e3 e4 ws esc hlt
  rintro j ws esc ⟨hj, e0, e1, e2, e3, e4⟩
  by_cases hlt : j < c.trans.length
  · obtain ⟨t, hss⟩ : ∃ s, c.trans[j]? = some s := ⟨c.trans[j], List.getElem?_eq_getElem hlt⟩
    have g1 := nlt hlt
    have g2 := wrap_succ hlt (by omega)
    have htm := hs.tr t (List.mem_of_getElem? hss)
    have f1 := cloneOp_con env (t.guard.map opAV) (by rw [List.length_map]; exact htm.1)
    have f2 := copyActsN_con env n hinv t.acts htm.2
    have htl : (c.trans.take j).length = j := by rw [List.length_take]; omega
    have hf : Fits (j + 1) 80 := fits_small (by omega) (by omega)
    have htk : c.trans.take (j + 1) = c.trans.take j ++ [t] := by rw [List.take_add_one, hss]; rfl
    have F := And.intro chAV.eq_1 <| And.intro trAV.eq_1 <| And.intro g1 <| And.intro g2 <| And.intro hss <| And.intro htl <| And.intro hf <| And.intro e0 <| And.intro e1 <| And.intro e2 <| And.intro e3 <| e4
    refine awp_seqH ?_
    repeat (first | refine st ?_ | refine cC f1 ?_ | refine cC f2 ?_)
    refine Halt.mk ?_
    refine awp_seqH ?_
    repeat (first | refine st ?_ | refine cC f1 ?_ | refine cC f2 ?_)
    refine Halt.mk ?_
    refine awp_seqH ?_
    refine oB ?_
    refine awp_seqH ?_
    repeat (first | refine st ?_ | refine cC f1 ?_ | refine cC f2 ?_)
    refine Halt.mk ?_
    refine awp_seqH ?_
    repeat (first | refine st ?_ | refine cC f1 ?_ | refine cC f2 ?_)
    refine Halt.mk ?_
    refine awp_newsH n hinv [(47, ⟨2, t.guard.map opAV, 39, true⟩), (50, ⟨4, t.acts.map (actN n), 35, true⟩)] (fun vs => [(1, .loc 1 (vs 1) 0 0), (2, .loc 2 (vs 2) 0 0), (3, .loc 3 (vs 3) 0 0), (7, .loc 7 (vs 7) 0 0), (39, trsAV c.trans), (40, I c.trans.length), (41, I j)])
      (fun vs => [(1, ⟨5, [chAV c], 26, false⟩), (2, ⟨5, [[Sg [], I 0, nilS, nilS, nilS]], 26, false⟩), (3, ⟨5, [[Sg c.name, I c.initial, .row 14 (vs 14), .row 9000 (vs 9000), .row 9001 (vs 9001)]], 26, false⟩), (7, ⟨5, [trN n t], 37, false⟩), (14, ⟨2, c.vars.map varAV, 41, true⟩), (9000, ⟨6, c.states.map (stN n), 32, true⟩), (9001, ⟨5, (c.trans.take j).map (trN n), 37, true⟩)])
      (fun esc => esc 2 = false ∧ esc 3 = false ∧ esc 7 = false ∧ esc 14 = false ∧ esc 9000 = false ∧ esc 9001 = false) ?_ ?_ ?_ ?_ ?_
    · (simp only [go_sem, F])
    · have F := chAV.eq_1
      (simp only [go_sem, newsSt, newsL, newsOf, seesR, seeAt, Row.see, AV.see, AV.see.seeL, Option.getD_none, List.any_cons, List.any_nil, F])
    · have F := chAV.eq_1
      (simp only [go_sem, trN, newsSt, newsL, newsOf, seesR, seeAt, Row.see, AV.see, AV.see.seeL, Option.getD_none, List.any_cons, List.any_nil, F])
    · refine ⟨?_, ?_, ?_, ?_, ?_, ?_⟩ <;> simp only [go_sem, newsSt, seesR, List.map_cons, List.map_nil, List.any_cons, List.any_nil, Bool.or_false, e0, e1, e2, e3, e4] <;> rfl
    try clear e0 e1 e2 e3 e4 ws esc
    rintro ws esc ⟨e0, e1, e5, e2, e3, e4⟩
    have F := And.intro chAV.eq_1 <| And.intro g1 <| And.intro g2 <| And.intro htl <| And.intro hf <| And.intro e0 <| And.intro e1 <| And.intro e2 <| And.intro e3 <| And.intro e4 <| e5
    repeat (first | refine oO rfl (by simp only [go_sem, trN, F]; exact ⟨rfl, rfl⟩) ?_ | refine gR ?_ | refine gO ?_ | refine oZ (d_end ?_) | refine oZ ?_ | refine oS ?_ | refine gT ?_ | refine gD Tryd.mixed ?_ | refine oB ?_ | refine oK ?_ | (refine oX ?_; simp only [thenA, blockA, ↓reduceIte, Nat.reduceEqDiff, reduceCtorEq]) | refine oY (by simp only [go_sem, trN, F]; exact iR) ?_ | refine oN (by simp only [go_sem, trN, F]; exact iR) ?_)
    refine Halt.mk ?_
    repeat (first | refine oO rfl (by simp only [go_sem, trN, F]; exact ⟨rfl, rfl⟩) ?_ | refine gR ?_ | refine gO ?_ | refine oZ (d_end ?_) | refine oZ ?_ | refine oS ?_ | refine gT ?_ | refine gD Tryd.mixed ?_ | refine oB ?_ | refine oK ?_ | (refine oX ?_; simp only [thenA, blockA, ↓reduceIte, Nat.reduceEqDiff, reduceCtorEq]) | refine oY (by simp only [go_sem, trN, F]; exact iR) ?_ | refine oN (by simp only [go_sem, trN, F]; exact iR) ?_)
    refine ⟨j + 1, ⟨hlt, ?_, ?_, ?_, ?_, ?_⟩, ?_, ?_, by omega⟩
    all_goals (first | (show _ = false; simp only [go_sem, e0, e1, e2, e3, e4]; done) | skip)
    · (simp only [go_sem, trN, F])
    · have F := And.intro chAV.eq_1 <| htk
      (simp only [go_sem, trN, List.map_append, F])
  obtain rfl : j = c.trans.length := by omega
  have g1 : ¬ (c.trans.length : Int) < (c.trans.length : Int) := by omega
  have hta : c.trans.take c.trans.length = c.trans := List.take_length
  have F := And.intro chAV.eq_1 <| And.intro g1 <| And.intro hta <| And.intro e0 <| And.intro e1 <| And.intro e2 <| And.intro e3 <| e4
  refine awp_seqH ?_
  repeat refine st ?_
  refine Halt.mk ?_
  refine awp_seqH ?_
  refine oN (by simp only [go_sem, F]; exact iR) ?_
  (refine oX ?_; simp only [thenA, blockA, ↓reduceIte, Nat.reduceEqDiff, reduceCtorEq])
  refine awp_newsH n hinv [(14, ⟨2, c.vars.map varAV, 41, true⟩), (9000, ⟨6, c.states.map (stN n), 32, true⟩), (9001, ⟨5, c.trans.map (trN n), 37, true⟩)] (fun vs => [(1, .loc 1 (vs 1) 0 0), (2, .loc 2 (vs 2) 0 0), (3, .loc 3 (vs 3) 0 0)])
    (fun vs => [(2, ⟨5, [[Sg [], I 0, nilS, nilS, nilS]], 26, false⟩), (3, ⟨5, [chN n c], 26, false⟩)])
    (fun esc => esc 2 = false ∧ esc 3 = false) ?_ ?_ ?_ ?_ ?_
  · have F := hta
    (simp only [go_sem, F])
  · have F := chAV.eq_1
    (simp only [go_sem, newsSt, newsL, newsOf, seesR, seeAt, Row.see, AV.see, AV.see.seeL, Option.getD_none, List.any_cons, List.any_nil, F])
  · have F := chAV.eq_1
    (simp only [go_sem, chN, newsSt, newsL, newsOf, seesR, seeAt, Row.see, AV.see, AV.see.seeL, Option.getD_none, List.any_cons, List.any_nil, F])
  · refine ⟨?_, ?_⟩ <;> simp only [go_sem, newsSt, seesR, List.map_cons, List.map_nil, List.any_cons, List.any_nil, Bool.or_false, e0, e1, e2, e3, e4] <;> rfl
  try clear e0 e1 e2 e3 e4 ws esc
  rintro ws esc ⟨e0, e1⟩
  have F := And.intro chAV.eq_1 <| And.intro e0 <| e1
  repeat (first | refine oO rfl (by simp only [go_sem, chN, F]; exact ⟨rfl, rfl⟩) ?_ | refine gR ?_ | refine gO ?_ | refine oZ (d_end ?_) | refine oZ ?_ | refine oS ?_ | refine gT ?_ | refine gD Tryd.mixed ?_ | refine oB ?_ | refine oK ?_ | (refine oX ?_; simp only [thenA, blockA, ↓reduceIte, Nat.reduceEqDiff, reduceCtorEq]) | refine oY (by simp only [go_sem, chN, F]; exact iR) ?_ | refine oN (by simp only [go_sem, chN, F]; exact iR) ?_)
  (refine awp_ret ?_; show (resRd _ _ _).run _ = some _; simp only [go_sem, chN, F])
end Go.Proofs.YtaonccobohiiiaaDoor
