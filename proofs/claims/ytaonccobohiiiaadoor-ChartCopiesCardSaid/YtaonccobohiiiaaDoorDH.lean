/- own: a chart in memory of its own. -/
import Derived.Test.YtaonccobohiiiaaDoorVP
import Derived.Test.YtaonccobohiiiaaDoorEvi
import Derived.Test.YtaonccobohiiiaaDoorSt
import Derived.Test.YtaonccobohiiiaaDoorHD
import Derived.Test.YtaonccobohiiiaaDoorHS
set_option linter.unusedSimpArgs false
namespace Go.Proofs.YtaonccobohiiiaaDoor
open Go.RowKit
set_option maxRecDepth 100000
set_option maxHeartbeats 4000000

def stO (s : StD) (V : Value) : List AV := [Sg s.name, I s.kind, I s.parent, I s.initial, .lit V, actsAV s.out]
def trO (t : TrD) (V : Value) : List AV := (trAV t).set 2 (.lit V)
def stSide (s : StD) (V : Value) : Side := ⟨V, 35, 4, s.inn.map actAV⟩
def trSide (t : TrD) (V : Value) : Side := ⟨V, 39, 2, t.guard.map opAV⟩
theorem zip_push {α β γ : Type} (f : α → β → γ) {l : List α} {V : List β} {a : α} (h : l[V.length]? = some a) (v : β) : List.zipWith f l (V ++ [v]) = List.zipWith f l V ++ [f a v] := by
  induction V generalizing l with
  | nil =>
    cases l with
    | nil => simp at h
    | cons x l => simp at h; simp [h]
  | cons b V ih =>
    cases l with
    | nil => simp at h
    | cons x l => simp at h; simp [ih h]
theorem zip_len {α β γ : Type} (f : α → β → γ) {l : List α} {V : List β} (h : V.length ≤ l.length) : (List.zipWith f l V).length = V.length := by simp; omega
structure OwnC (c : ChD) : Prop where
  vars : c.vars.length ≤ 4096
  sts : c.states.length ≤ 4096
  trs : c.trans.length ≤ 4096
  inn : ∀ s ∈ c.states, s.inn.length ≤ 4096
  guard : ∀ t ∈ c.trans, Fits t.guard.length 16
def ownQ (P : Program) (c : ChD) : Exit → St → List Side → Prop
  | .normal, s, L | .ret, s, L => ∃ Vs Ws : List Value, Vs.length = c.states.length ∧ Ws.length = c.trans.length ∧ L = List.zipWith stSide c.states Vs ++ List.zipWith trSide c.trans Ws ∧
      (cellRd P 26 (s.f 2)).run s = some ⟨.agg [Sg c.name, I c.initial, .row 12 (s.vs 12), .row 9000 (s.vs 9000), .row 9001 (s.vs 9001)], []⟩ ∧
      s.rows 12 = some ⟨2, c.vars.map varAV, 41, true⟩ ∧ s.rows 9000 = some ⟨6, List.zipWith stO c.states Vs, 32, true⟩ ∧ s.rows 9001 = some ⟨5, List.zipWith trO c.trans Ws, 37, true⟩ ∧
      s.esc 12 = false ∧ s.esc 9000 = false ∧ s.esc 9001 = false
  | _, _, _ => False
theorem own_walk (env : Env) (c : ChD) (hs : OwnC c) : ∃ cd, Tryd.f7.body = some cd ∧ awpP Tryd.prog env Tryd.f7.ntmps cd (ownQ Tryd.prog c) (St.init [.agg (chAV c)]) [] := by
  have hn1 := hs.sts
  have hn2 := hs.trs
  have hn3 := hs.vars
  refine ⟨_, rfl, ?_⟩
  rw [Tryd.ntmps7]
  have hv : Fits (c.vars.length) 24 := fits_small (by omega) (by omega)
  have F := And.intro chAV.eq_1 <| hv
  refine awpP_seqA ?_
  repeat refine st ?_
  change awpP _ _ _ _ _ _ _
  refine awpP_seqA ?_
  repeat refine st ?_
  change awpP _ _ _ _ _ _ _
  refine awpP_seq ?_
  refine awpP_seqA ?_
  refine awp_nilcell 3 9000 0 3 ⟨5, [[Sg c.name, I c.initial, .row 12 2, nilS, nilS]], 26, false⟩ [Sg c.name, I c.initial, .row 12 2, nilS, nilS] 32 6 (by decide) (by decide) (Nat.succ_ne_zero 4) rfl rfl rfl (by simp only [go_sem, F]; exact iR) (by simp only [go_sem, F]; exact iR) ?_
  refine awp_nilcell 3 9001 0 4 ⟨5, [[Sg c.name, I c.initial, .row 12 2, .row 9000 1, nilS]], 26, false⟩ [Sg c.name, I c.initial, .row 12 2, .row 9000 1, nilS] 37 5 (by decide) (by decide) (Nat.succ_ne_zero 4) rfl rfl rfl (by simp only [go_sem, F]; exact iR) (by simp only [go_sem, F]; exact iR) ?_
  repeat refine st ?_
  change awpP _ _ _ _ _ _ _
  refine awpP_block ?_
  refine awpP_loop (D := List Value) (fun Vs vs => [(1, .loc 1 (vs 1) 0 0), (2, .loc 2 (vs 2) 0 0), (3, .loc 3 (vs 3) 0 0), (4, I Vs.length)])
    (fun Vs vs => [(1, ⟨5, [chAV c], 26, false⟩), (2, ⟨5, [[Sg [], I 0, nilS, nilS, nilS]], 26, false⟩), (3, ⟨5, [[Sg c.name, I c.initial, .row 12 (vs 12), .row 9000 (vs 9000), .row 9001 (vs 9001)]], 26, false⟩), (12, ⟨2, c.vars.map varAV, 41, true⟩), (9000, ⟨6, List.zipWith stO c.states Vs, 32, true⟩), (9001, ⟨5, [], 37, true⟩)])
    (fun Vs _ esc L => (Vs.length ≤ c.states.length ∧ L = List.zipWith stSide c.states Vs) ∧ esc 2 = false ∧ esc 3 = false ∧ esc 12 = false ∧ esc 9000 = false ∧ esc 9001 = false) (fun Vs => c.states.length - Vs.length) [] ?_ ?_ ?_ ?_
  · refine ⟨⟨Nat.zero_le _, by simp⟩, ?_, ?_, ?_, ?_, ?_⟩ <;> simp only [go_sem]
  · (simp only [go_sem, F])
  · have F := chAV.eq_1
    (simp only [go_sem, List.zipWith_nil_right, F])
  rintro Vs ws esc L ⟨⟨hj, hL⟩, e0, e1, e2, e3, e4⟩
  refine awpP_seq ?_
  by_cases hlt : Vs.length < c.states.length
  · obtain ⟨s, hss⟩ : ∃ s, c.states[Vs.length]? = some s := ⟨c.states[Vs.length], List.getElem?_eq_getElem hlt⟩
    have g1 := nlt hlt
    have g2 := wrap_succ hlt (by omega)
    have hf0 : Fits s.inn.length 56 := fits_small (hs.inn s (List.mem_of_getElem? hss)) (by omega)
    have hzl : (List.zipWith stO c.states Vs).length = Vs.length := zip_len stO hj
    have hf : Fits (Vs.length + 1) 88 := fits_small (by omega) (by omega)
    have F := And.intro chAV.eq_1 <| And.intro stAV.eq_1 <| And.intro g1 <| And.intro g2 <| And.intro hss <| And.intro hzl <| And.intro hf <| And.intro hf0 <| And.intro e0 <| And.intro e1 <| And.intro e2 <| And.intro e3 <| e4
    refine awpP_seqA ?_
    repeat refine st ?_
    change awpP _ _ _ _ _ _ _
    refine awpP_yes (by simp only [go_sem, F]; exact iR) ?_
    refine awpP_of (oK ?_)
    change awpP _ _ _ _ _ _ _
    refine awpP_seq ?_
    refine awpP_block ?_
    refine awpP_seqA ?_
    repeat refine st ?_
    change awpP _ _ _ _ _ _ _
    refine awpP_seqA ?_
    repeat refine st ?_
    change awpP _ _ _ _ _ _ _
    refine awpP_stowH (fun V vs => [(1, .loc 1 (vs 1) 0 0), (2, .loc 2 (vs 2) 0 0), (3, .loc 3 (vs 3) 0 0), (4, I Vs.length), (5, .loc 5 (vs 5) 0 0)])
      (fun V vs => [(1, ⟨5, [chAV c], 26, false⟩), (2, ⟨5, [[Sg [], I 0, nilS, nilS, nilS]], 26, false⟩), (3, ⟨5, [[Sg c.name, I c.initial, .row 12 (vs 12), .row 9000 (vs 9000), .row 9001 (vs 9001)]], 26, false⟩), (5, ⟨6, [stO s V], 32, false⟩), (12, ⟨2, c.vars.map varAV, 41, true⟩), (9000, ⟨6, List.zipWith stO c.states Vs, 32, true⟩), (9001, ⟨5, [], 37, true⟩)])
      (fun esc => esc 2 = false ∧ esc 3 = false ∧ esc 5 = false ∧ esc 12 = false ∧ esc 9000 = false ∧ esc 9001 = false)
      29 ⟨4, s.inn.map actAV, 35, true⟩ (by simp only [go_sem, F]; exact iR) (Nat.succ_ne_zero 3) rfl (by simp only [go_sem]) (fun V => ?_) (fun V => ?_) ?_ ?_
    · have F := chAV.eq_1
      (simp only [go_sem, stowSt, litAt, Row.see, AV.see, AV.see.seeL, Option.getD_none, F])
    · have F := chAV.eq_1
      (simp only [go_sem, stO, stowSt, litAt, Row.see, AV.see, AV.see.seeL, Option.getD_none, F])
    · refine ⟨?_, ?_, ?_, ?_, ?_, ?_⟩ <;> simp only [go_sem, e0, e1, e2, e3, e4]
    try clear e0 e1 e2 e3 e4 ws esc
    rintro V ws esc hV ⟨e0, e1, e5, e2, e3, e4⟩
    have hpush := zip_push stO hss V
    have hpushS := zip_push stSide hss V
    have F := And.intro chAV.eq_1 <| And.intro g1 <| And.intro g2 <| And.intro hzl <| And.intro hf <| And.intro e0 <| And.intro e1 <| And.intro e2 <| And.intro e3 <| And.intro e4 <| e5
    refine awpP_of ?_
    repeat (first | refine oO rfl (by simp only [go_sem, stO, F]; exact ⟨rfl, rfl⟩) ?_ | refine gR ?_ | refine gO ?_ | refine oZ (d_end ?_) | refine oZ ?_ | refine oS ?_ | refine gT ?_ | refine gD Tryd.mixed ?_ | refine oB ?_ | refine oK ?_ | (refine oX ?_; simp only [thenA, blockA, ↓reduceIte, Nat.reduceEqDiff, reduceCtorEq]) | refine oY (by simp only [go_sem, stO, F]; exact iR) ?_ | refine oN (by simp only [go_sem, stO, F]; exact iR) ?_)
    change awpP _ _ _ _ _ _ _
    refine awpP_of ?_
    repeat (first | refine oO rfl (by simp only [go_sem, stO, F]; exact ⟨rfl, rfl⟩) ?_ | refine gR ?_ | refine gO ?_ | refine oZ (d_end ?_) | refine oZ ?_ | refine oS ?_ | refine gT ?_ | refine gD Tryd.mixed ?_ | refine oB ?_ | refine oK ?_ | (refine oX ?_; simp only [thenA, blockA, ↓reduceIte, Nat.reduceEqDiff, reduceCtorEq]) | refine oY (by simp only [go_sem, stO, F]; exact iR) ?_ | refine oN (by simp only [go_sem, stO, F]; exact iR) ?_)
    refine ⟨Vs ++ [V], ⟨⟨?_, ?_⟩, ?_, ?_, ?_, ?_, ?_⟩, ?_, ?_, ?_⟩
    · rw [List.length_append]; exact hlt
    · rw [hpushS, hL]; rfl
    all_goals (first | (show _ = false; simp only [go_sem, e0, e1, e2, e3, e4]; done) | skip)
    · (simp only [go_sem])
    · have F := And.intro chAV.eq_1 <| hpush
      (simp only [go_sem, stO, F])
    · rw [List.length_append]
      show _ - (Vs.length + 1) < _
      omega
  have hVn : Vs.length = c.states.length := by omega
  have g1 : ¬ (Vs.length : Int) < (c.states.length : Int) := by omega
  have F := And.intro chAV.eq_1 <| And.intro g1 <| And.intro e0 <| And.intro e1 <| And.intro e2 <| And.intro e3 <| e4
  refine awpP_seqA ?_
  repeat refine st ?_
  change awpP _ _ _ _ _ _ _
  refine awpP_no (by simp only [go_sem, F]; exact iR) ?_
  refine awpP_of (oX ?_)
  simp only [thenP, blockP, ↓reduceIte]
  try clear g1
  refine awpP_seq ?_
  refine awpP_seqA ?_
  repeat refine st ?_
  change awpP _ _ _ _ _ _ _
  refine awpP_block ?_
  refine awpP_loop (D := List Value) (fun Ws vs => [(1, .loc 1 (vs 1) 0 0), (2, .loc 2 (vs 2) 0 0), (3, .loc 3 (vs 3) 0 0), (6, I Ws.length)])
    (fun Ws vs => [(1, ⟨5, [chAV c], 26, false⟩), (2, ⟨5, [[Sg [], I 0, nilS, nilS, nilS]], 26, false⟩), (3, ⟨5, [[Sg c.name, I c.initial, .row 12 (vs 12), .row 9000 (vs 9000), .row 9001 (vs 9001)]], 26, false⟩), (12, ⟨2, c.vars.map varAV, 41, true⟩), (9000, ⟨6, List.zipWith stO c.states Vs, 32, true⟩), (9001, ⟨5, List.zipWith trO c.trans Ws, 37, true⟩)])
    (fun Ws _ esc L => (Ws.length ≤ c.trans.length ∧ L = List.zipWith stSide c.states Vs ++ List.zipWith trSide c.trans Ws) ∧ esc 2 = false ∧ esc 3 = false ∧ esc 12 = false ∧ esc 9000 = false ∧ esc 9001 = false) (fun Ws => c.trans.length - Ws.length) [] ?_ ?_ ?_ ?_
  · refine ⟨⟨Nat.zero_le _, by rw [List.zipWith_nil_right, List.append_nil]; exact hL⟩, ?_, ?_, ?_, ?_, ?_⟩ <;> simp only [go_sem, e0, e1, e2, e3, e4]
  · (simp only [go_sem, F])
  · have F := chAV.eq_1
    (simp only [go_sem, List.zipWith_nil_right, F])
  try clear e0 e1 e2 e3 e4 ws esc hL L hj
  rintro Ws ws esc L ⟨⟨hj, hL⟩, e0, e1, e2, e3, e4⟩
  refine awpP_seq ?_
  by_cases hlt : Ws.length < c.trans.length
  · obtain ⟨t, hss⟩ : ∃ s, c.trans[Ws.length]? = some s := ⟨c.trans[Ws.length], List.getElem?_eq_getElem hlt⟩
    have g1 := nlt hlt
    have g2 := wrap_succ hlt (by omega)
    have hf0 : Fits t.guard.length 16 := hs.guard t (List.mem_of_getElem? hss)
    have hzl : (List.zipWith trO c.trans Ws).length = Ws.length := zip_len trO hj
    have hf : Fits (Ws.length + 1) 80 := fits_small (by omega) (by omega)
    have F := And.intro chAV.eq_1 <| And.intro trAV.eq_1 <| And.intro g1 <| And.intro g2 <| And.intro hss <| And.intro hzl <| And.intro hf <| And.intro hf0 <| And.intro e0 <| And.intro e1 <| And.intro e2 <| And.intro e3 <| e4
    refine awpP_seqA ?_
    repeat refine st ?_
    change awpP _ _ _ _ _ _ _
    refine awpP_yes (by simp only [go_sem, F]; exact iR) ?_
    refine awpP_of (oK ?_)
    change awpP _ _ _ _ _ _ _
    refine awpP_seq ?_
    refine awpP_block ?_
    refine awpP_seqA ?_
    repeat refine st ?_
    change awpP _ _ _ _ _ _ _
    refine awpP_seqA ?_
    repeat refine st ?_
    change awpP _ _ _ _ _ _ _
    refine awpP_stowH (fun V vs => [(1, .loc 1 (vs 1) 0 0), (2, .loc 2 (vs 2) 0 0), (3, .loc 3 (vs 3) 0 0), (6, I Ws.length), (7, .loc 7 (vs 7) 0 0)])
      (fun V vs => [(1, ⟨5, [chAV c], 26, false⟩), (2, ⟨5, [[Sg [], I 0, nilS, nilS, nilS]], 26, false⟩), (3, ⟨5, [[Sg c.name, I c.initial, .row 12 (vs 12), .row 9000 (vs 9000), .row 9001 (vs 9001)]], 26, false⟩), (7, ⟨5, [trO t V], 37, false⟩), (12, ⟨2, c.vars.map varAV, 41, true⟩), (9000, ⟨6, List.zipWith stO c.states Vs, 32, true⟩), (9001, ⟨5, List.zipWith trO c.trans Ws, 37, true⟩)])
      (fun esc => esc 2 = false ∧ esc 3 = false ∧ esc 7 = false ∧ esc 12 = false ∧ esc 9000 = false ∧ esc 9001 = false)
      52 ⟨2, t.guard.map opAV, 39, true⟩ (by simp only [go_sem, F]; exact iR) (Nat.succ_ne_zero 1) rfl (by simp only [go_sem]) (fun V => ?_) (fun V => ?_) ?_ ?_
    · have F := chAV.eq_1
      (simp only [go_sem, stowSt, litAt, Row.see, AV.see, AV.see.seeL, Option.getD_none, F])
    · have F := And.intro chAV.eq_1 <| trAV.eq_1
      (simp only [go_sem, trO, stowSt, litAt, Row.see, AV.see, AV.see.seeL, Option.getD_none, F])
    · refine ⟨?_, ?_, ?_, ?_, ?_, ?_⟩ <;> simp only [go_sem, e0, e1, e2, e3, e4]
    try clear e0 e1 e2 e3 e4 ws esc
    rintro V ws esc hV ⟨e0, e1, e5, e2, e3, e4⟩
    have hpush := zip_push trO hss V
    have hpushS := zip_push trSide hss V
    have F := And.intro chAV.eq_1 <| And.intro trAV.eq_1 <| And.intro g1 <| And.intro g2 <| And.intro hzl <| And.intro hf <| And.intro e0 <| And.intro e1 <| And.intro e2 <| And.intro e3 <| And.intro e4 <| e5
    refine awpP_of ?_
    repeat (first | refine oO rfl (by simp only [go_sem, trO, F]; exact ⟨rfl, rfl⟩) ?_ | refine gR ?_ | refine gO ?_ | refine oZ (d_end ?_) | refine oZ ?_ | refine oS ?_ | refine gT ?_ | refine gD Tryd.mixed ?_ | refine oB ?_ | refine oK ?_ | (refine oX ?_; simp only [thenA, blockA, ↓reduceIte, Nat.reduceEqDiff, reduceCtorEq]) | refine oY (by simp only [go_sem, trO, F]; exact iR) ?_ | refine oN (by simp only [go_sem, trO, F]; exact iR) ?_)
    change awpP _ _ _ _ _ _ _
    refine awpP_of ?_
    repeat (first | refine oO rfl (by simp only [go_sem, trO, F]; exact ⟨rfl, rfl⟩) ?_ | refine gR ?_ | refine gO ?_ | refine oZ (d_end ?_) | refine oZ ?_ | refine oS ?_ | refine gT ?_ | refine gD Tryd.mixed ?_ | refine oB ?_ | refine oK ?_ | (refine oX ?_; simp only [thenA, blockA, ↓reduceIte, Nat.reduceEqDiff, reduceCtorEq]) | refine oY (by simp only [go_sem, trO, F]; exact iR) ?_ | refine oN (by simp only [go_sem, trO, F]; exact iR) ?_)
    refine ⟨Ws ++ [V], ⟨⟨?_, ?_⟩, ?_, ?_, ?_, ?_, ?_⟩, ?_, ?_, ?_⟩
    · rw [List.length_append]; exact hlt
    · rw [hpushS, hL, List.append_assoc]; rfl
    all_goals (first | (show _ = false; simp only [go_sem, e0, e1, e2, e3, e4]; done) | skip)
    · (simp only [go_sem])
    · have F := And.intro chAV.eq_1 <| And.intro trAV.eq_1 <| hpush
      (simp only [go_sem, trO, F])
    · rw [List.length_append]
      show _ - (Ws.length + 1) < _
      omega
  have hWn : Ws.length = c.trans.length := by omega
  have g1 : ¬ (Ws.length : Int) < (c.trans.length : Int) := by omega
  have F := And.intro chAV.eq_1 <| And.intro g1 <| And.intro e0 <| And.intro e1 <| And.intro e2 <| And.intro e3 <| e4
  refine awpP_seqA ?_
  repeat refine st ?_
  change awpP _ _ _ _ _ _ _
  refine awpP_no (by simp only [go_sem, F]; exact iR) ?_
  refine awpP_of (oX ?_)
  simp only [thenP, blockP, ↓reduceIte]
  refine awpP_of ?_
  repeat refine st ?_
  refine awp_ret ?_
  refine ⟨Vs, Ws, hVn, hWn, hL, ?_, ?_, ?_, ?_, ?_, ?_, ?_⟩
  · simp only [go_sem, F, cellRd]
  all_goals simp only [go_sem, F]
end Go.Proofs.YtaonccobohiiiaaDoor
