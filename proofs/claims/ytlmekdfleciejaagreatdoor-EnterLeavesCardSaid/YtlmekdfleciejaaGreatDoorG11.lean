/- What the legal rows' lists of variables give. -/
import Derived.Test.YtlmekdfleciejaaGreatDoorG1
import Derived.Test.YtlmekdfleciejaaGreatDoorG10
import Derived.Test.YtlmekdfleciejaaGreatDoorM8
import Derived.Test.YtlmekdfleciejaaGreatDoorG6
import Derived.Test.YtlmekdfleciejaaGreatDoorM27
import Derived.Test.YtlmekdfleciejaaGreatDoorM15
import Derived.Test.YtlmekdfleciejaaGreatDoorM19
set_option linter.unusedSimpArgs false
namespace Go.Proofs.YtlmekdfleciejaaGreatDoor
open Go.RowKit
set_option maxRecDepth 100000
set_option maxHeartbeats 16000000
theorem take_next {α : Type} {l : List α} {n : Nat} {x : α} (h : l[n]? = some x) : l.take (n + 1) = l.take n ++ [x] := by rw [List.take_add_one, h]; rfl
theorem drop_cons {α : Type} {l : List α} {n : Nat} {x : α} (h : l[n]? = some x) : l.drop n = x :: l.drop (n + 1) := by
  obtain ⟨hn, he⟩ := List.getElem?_eq_some_iff.1 h
  rw [List.drop_eq_getElem_cons hn, he]
def idxQ (p : Int → Bool) : List Int → Option Nat
  | [] => none
  | d :: l => if p d = true then some 0 else (idxQ p l).map (· + 1)
def idxJ : Option Nat → Int
  | some i => i
  | none => -1
theorem idxQ_some {p : Int → Bool} : ∀ {l : List Int} {i : Nat}, idxQ p l = some i → i < l.length ∧ l.take i = (l.take i).filter (fun d => !p d) ∧ ∃ d, l[i]? = some d ∧ p d = true
  | [], i, h => by simp [idxQ] at h
  | d :: l, i, h => by
    unfold idxQ at h
    split at h
    · rename_i hp
      cases h
      exact ⟨by simp, by simp, d, rfl, hp⟩
    · rename_i hp
      cases hi : idxQ p l with
      | none => rw [hi] at h; cases h
      | some j =>
        rw [hi] at h
        cases h
        obtain ⟨h1, h2, x, h3, h4⟩ := idxQ_some hi
        refine ⟨by simp; omega, ?_, x, by simpa using h3, h4⟩
        have hp : p d = false := by simpa using hp
        simp only [List.take_succ_cons, List.filter_cons, hp, Bool.not_false, if_true]
        rw [← h2]
theorem idxQ_none {p : Int → Bool} : ∀ {l : List Int}, idxQ p l = none → l.filter (fun d => !p d) = l ∧ ∀ d ∈ l, p d = false
  | [], h => by simp
  | d :: l, h => by
    unfold idxQ at h
    split at h
    · cases h
    · rename_i hp
      have hp : p d = false := by simpa using hp
      cases hi : idxQ p l with
      | some j => rw [hi] at h; cases h
      | none =>
        obtain ⟨h1, h2⟩ := idxQ_none hi
        refine ⟨by simp only [List.filter_cons, hp, Bool.not_false, if_true, h1], fun x hx => ?_⟩
        rcases List.mem_cons.1 hx with rfl | hx
        · exact hp
        · exact h2 x hx
theorem idxQ_drop {p : Int → Bool} {l : List Int} {n : Nat} {d : Int} (hd : l[n]? = some d) : idxQ p (l.drop n) = if p d = true then some 0 else (idxQ p (l.drop (n + 1))).map (· + 1) := by
  rw [drop_cons hd]
  rfl
theorem indexFZ_con (env : Env) (l : List Int) (p : Int → Bool) (g : FuncId) (caps : List (List AV)) (hp : ∀ d, Con Tryz.prog env g [I d, .ref 1 caps 0 0] (B (p d))) (hl : l.length ≤ 4096) : Con Tryz.prog env 161 [.seq 1 (l.map intAV), .clo g [.ref 1 caps 0 0]] (I (idxJ (idxQ p l))) := by
  refine con_of_body Tryz.func161 rfl Tryz.call161 (by rw [Tryz.ntmps161]; simp) ?_
  rw [Tryz.ntmps161, Tryz.results161]
  repeat refine st0 ?_
  refine awp_loopH (D := Nat) (fun n vs => [(0, .seq 1 (l.map intAV)), (1, .clo g [.ref 1 caps 0 0]), (7, I l.length), (8, I n)]) (fun n vs => []) (fun n _ esc => n ≤ l.length ∧ idxQ p l = (idxQ p (l.drop n)).map (· + n)) (fun n => l.length - n) 0 ?_ ?_ ?_ ?_
  · exact ⟨Nat.zero_le _, by simp⟩
  · (simp only [go_sem])
  · (simp only [go_sem])
  rintro n vs esc ⟨hn, hi⟩
  by_cases hlt : n < l.length
  · obtain ⟨d, hd⟩ : ∃ x, l[n]? = some x := ⟨l[n], List.getElem?_eq_getElem hlt⟩
    have g1 := nlt hlt
    have g2 := wrap_succ hlt (by omega)
    have f1 := hp d
    rw [idxQ_drop hd] at hi
    cases h1 : p d
    · rw [h1] at hi f1
      simp only [Bool.false_eq_true, if_false] at hi
      have F := And.intro g1 <| g2
      repeat (first | refine oO rfl (by simp only [go_sem, hd, F]; exact ⟨rfl, rfl⟩) ?_ | refine gR ?_ | refine gO ?_ | refine oZ (d_end ?_) | refine oZ ?_ | refine oS ?_ | refine gT ?_ | refine gD Tryz.mixed ?_ | refine oB ?_ | refine oK ?_ | (refine oX ?_; simp only [thenA, blockA, ↓reduceIte, Nat.reduceEqDiff, reduceCtorEq]) | refine oY (by simp only [go_sem, hd, F]; exact iR) ?_ | refine oN (by simp only [go_sem, hd, F]; exact iR) ?_)
      refine oC (callOf_clo rfl (by simp only [go_sem, hd, F]; exact iR)) (f1) (by simp only [go_sem, hd, F]; exact iR) (by simp only [go_sem, hd, F]; exact ⟨rfl, rfl⟩) ?_
      repeat (first | refine oO rfl (by simp only [go_sem, hd, F]; exact ⟨rfl, rfl⟩) ?_ | refine gR ?_ | refine gO ?_ | refine oZ (d_end ?_) | refine oZ ?_ | refine oS ?_ | refine gT ?_ | refine gD Tryz.mixed ?_ | refine oB ?_ | refine oK ?_ | (refine oX ?_; simp only [thenA, blockA, ↓reduceIte, Nat.reduceEqDiff, reduceCtorEq]) | refine oY (by simp only [go_sem, hd, F]; exact iR) ?_ | refine oN (by simp only [go_sem, hd, F]; exact iR) ?_)
      refine ⟨n + 1, ⟨hlt, ?_⟩, ?_, ?_, ?_⟩
      · rw [hi]
        cases idxQ p (l.drop (n + 1))
        · rfl
        · simp; omega
      · (simp only [go_sem, hd, F])
      · (simp only [go_sem, hd, F])
      · omega
    · rw [h1] at hi f1
      simp only [if_true, Option.map_some, Nat.zero_add] at hi
      rw [hi]
      have F := And.intro g1 <| g2
      repeat (first | refine oO rfl (by simp only [go_sem, hd, idxJ, F]; exact ⟨rfl, rfl⟩) ?_ | refine gR ?_ | refine gO ?_ | refine oZ (d_end ?_) | refine oZ ?_ | refine oS ?_ | refine gT ?_ | refine gD Tryz.mixed ?_ | refine oB ?_ | refine oK ?_ | (refine oX ?_; simp only [thenA, blockA, ↓reduceIte, Nat.reduceEqDiff, reduceCtorEq]) | refine oY (by simp only [go_sem, hd, idxJ, F]; exact iR) ?_ | refine oN (by simp only [go_sem, hd, idxJ, F]; exact iR) ?_)
      refine oC (callOf_clo rfl (by simp only [go_sem, hd, idxJ, F]; exact iR)) (f1) (by simp only [go_sem, hd, idxJ, F]; exact iR) (by simp only [go_sem, hd, idxJ, F]; exact ⟨rfl, rfl⟩) ?_
      repeat (first | refine oO rfl (by simp only [go_sem, hd, idxJ, F]; exact ⟨rfl, rfl⟩) ?_ | refine gR ?_ | refine gO ?_ | refine oZ (d_end ?_) | refine oZ ?_ | refine oS ?_ | refine gT ?_ | refine gD Tryz.mixed ?_ | refine oB ?_ | refine oK ?_ | (refine oX ?_; simp only [thenA, blockA, ↓reduceIte, Nat.reduceEqDiff, reduceCtorEq]) | refine oY (by simp only [go_sem, hd, idxJ, F]; exact iR) ?_ | refine oN (by simp only [go_sem, hd, idxJ, F]; exact iR) ?_)
      (refine awp_ret ?_; show (resRd _ _ _).run _ = some _; simp only [go_sem, hd, idxJ, F])
  · have g1 : ¬ (n : Int) < (l.length : Int) := by omega
    rw [List.drop_of_length_le (by omega)] at hi
    rw [hi]
    have F := g1
    repeat (first | refine oO rfl (by simp only [go_sem, idxJ, idxQ, F]; exact ⟨rfl, rfl⟩) ?_ | refine gR ?_ | refine gO ?_ | refine oZ (d_end ?_) | refine oZ ?_ | refine oS ?_ | refine gT ?_ | refine gD Tryz.mixed ?_ | refine oB ?_ | refine oK ?_ | (refine oX ?_; simp only [thenA, blockA, ↓reduceIte, Nat.reduceEqDiff, reduceCtorEq]) | refine oY (by simp only [go_sem, idxJ, idxQ, F]; exact iR) ?_ | refine oN (by simp only [go_sem, idxJ, idxQ, F]; exact iR) ?_)
    (refine awp_ret ?_; show (resRd _ _ _).run _ = some _; simp only [go_sem, idxJ, idxQ, F])
theorem deleteFZ_con (env : Env) (l : List Int) (p : Int → Bool) (g : FuncId) (G : List Int) (te : TypeId) (hp : ∀ d, Con Tryz.prog env g [I d, .ref 1 [[.seq 1 (G.map intAV)]] 0 0] (B (p d))) (hl : l.length ≤ 4096) :
    ConI Tryz.prog env 103 [1000, 1001] (fun k => k == 1000) (fun vs => [.row 1000 (vs 1000), .clo g [.loc 1001 (vs 1001) 0 0]]) (fun _ => [(1000, ⟨1, l.map intAV, 3, true⟩), (1001, ⟨1, [[.seq 1 (G.map intAV)]], te, false⟩)]) (fun _ => [(1000, ⟨1, (l.filter fun d => !p d).map intAV, 3, true⟩), (1001, ⟨1, [[.seq 1 (G.map intAV)]], te, false⟩)]) (fun vs => .row 1000 (vs 1000)) := by
  have f0 := (indexFZ_con env l p g [[.seq 1 (G.map intAV)]] hp hl).lend rfl
  cases hi : idxQ p l with
  | none =>
    rw [hi] at f0
    obtain ⟨h1, _⟩ := idxQ_none hi
    rw [h1]
    refine ⟨Tryz.call103, _, _, Tryz.func103, rfl, (by intro _; rw [Tryz.ntmps103]; simp), ?_⟩
    intro vs esc hesc
    rw [Tryz.ntmps103, Tryz.results103]
    have e0 := hesc 1000 (by simp)
    have e1 := hesc 1001 (by simp)
    have F := And.intro e0 <| e1
    repeat (first | refine oO rfl (by simp only [go_sem, idxJ, F]; exact ⟨rfl, rfl⟩) ?_ | refine gR ?_ | refine gO ?_ | refine oZ (d_end ?_) | refine oZ ?_ | refine oS ?_ | refine gT ?_ | refine gD Tryz.mixed ?_ | refine oB ?_ | refine oK ?_ | (refine oX ?_; simp only [thenA, blockA, ↓reduceIte, Nat.reduceEqDiff, reduceCtorEq]) | refine oY (by simp only [go_sem, idxJ, F]; exact iR) ?_ | refine oN (by simp only [go_sem, idxJ, F]; exact iR) ?_)
    refine oL rfl (f0) (by simp only [go_sem, idxJ, F]; exact iR) (by simp only [go_sem, idxJ, F]; exact ⟨rfl, rfl⟩) ?_
    repeat (first | refine oO rfl (by simp only [go_sem, idxJ, F]; exact ⟨rfl, rfl⟩) ?_ | refine gR ?_ | refine gO ?_ | refine oZ (d_end ?_) | refine oZ ?_ | refine oS ?_ | refine gT ?_ | refine gD Tryz.mixed ?_ | refine oB ?_ | refine oK ?_ | (refine oX ?_; simp only [thenA, blockA, ↓reduceIte, Nat.reduceEqDiff, reduceCtorEq]) | refine oY (by simp only [go_sem, idxJ, F]; exact iR) ?_ | refine oN (by simp only [go_sem, idxJ, F]; exact iR) ?_)
    (refine awp_ret ?_; (try simp only [thenA, blockA, ↓reduceIte, Nat.reduceEqDiff, reduceCtorEq]); refine retI_of ?_ ?_ <;> simp only [go_sem, idxJ, F, implies_true, and_self, imp_self, false_implies, AV.tuple.injEq, exists_eq_left', ne_eq])
  | some i0 =>
    rw [hi] at f0
    obtain ⟨h1, h2, d0, h3, h4⟩ := idxQ_some hi
    have g0 : ((i0 : Int) == -1) = false := by simp
    have g1 := wrap_succ h1 (by omega)
    refine ⟨Tryz.call103, _, _, Tryz.func103, rfl, (by intro _; rw [Tryz.ntmps103]; simp), ?_⟩
    intro vs esc hesc
    rw [Tryz.ntmps103, Tryz.results103]
    have e0 := hesc 1000 (by simp)
    have e1 := hesc 1001 (by simp)
    have F := And.intro e0 <| And.intro e1 <| And.intro g0 <| g1
    repeat (first | refine oO rfl (by simp only [go_sem, idxJ, F]; exact ⟨rfl, rfl⟩) ?_ | refine gR ?_ | refine gO ?_ | refine oZ (d_end ?_) | refine oZ ?_ | refine oS ?_ | refine gT ?_ | refine gD Tryz.mixed ?_ | refine oB ?_ | refine oK ?_ | (refine oX ?_; simp only [thenA, blockA, ↓reduceIte, Nat.reduceEqDiff, reduceCtorEq]) | refine oY (by simp only [go_sem, idxJ, F]; exact iR) ?_ | refine oN (by simp only [go_sem, idxJ, F]; exact iR) ?_)
    refine oL rfl (f0) (by simp only [go_sem, idxJ, F]; exact iR) (by simp only [go_sem, idxJ, F]; exact ⟨rfl, rfl⟩) ?_
    repeat (first | refine oO rfl (by simp only [go_sem, idxJ, F]; exact ⟨rfl, rfl⟩) ?_ | refine gR ?_ | refine gO ?_ | refine oZ (d_end ?_) | refine oZ ?_ | refine oS ?_ | refine gT ?_ | refine gD Tryz.mixed ?_ | refine oB ?_ | refine oK ?_ | (refine oX ?_; simp only [thenA, blockA, ↓reduceIte, Nat.reduceEqDiff, reduceCtorEq]) | refine oY (by simp only [go_sem, idxJ, F]; exact iR) ?_ | refine oN (by simp only [go_sem, idxJ, F]; exact iR) ?_)
    refine awp_loopH (D := Nat × List Int) (fun x vs' => [(0, .row 1000 (vs' 1000)), (1, .clo g [.loc 1001 (vs' 1001) 0 0]), (5, I (((l.take x.1).filter fun d => !p d).length : Int)), (6, I (x.1 : Int))]) (fun x vs' => [(1000, ⟨1, x.2.map intAV, 3, true⟩), (1001, ⟨1, [[.seq 1 (G.map intAV)]], te, false⟩)]) (fun x vs' esc' => (x.1 ≤ l.length ∧ x.2.length = l.length ∧ ((l.take x.1).filter fun d => !p d).length < x.1 ∧ x.2.take ((l.take x.1).filter fun d => !p d).length = (l.take x.1).filter (fun d => !p d) ∧ x.2.drop x.1 = l.drop x.1) ∧ vs' 1001 = vs 1001 ∧ esc' 1000 = false ∧ esc' 1001 = false) (fun x => l.length - x.1) (i0 + 1, l) ?_ ?_ ?_ ?_
    · have hq : (l.take (i0 + 1)).filter (fun d => !p d) = l.take i0 := by
        rw [take_next h3, List.filter_append, ← h2]
        simp [h4]
      refine ⟨⟨h1, rfl, ?_, ?_, rfl⟩, by simp only [go_sem], by simp only [go_sem, e0], by simp only [go_sem, e1]⟩
      · rw [hq, List.length_take]; omega
      · simp only
        rw [hq, List.length_take, Nat.min_eq_left (by omega)]
    · have hq : ((l.take (i0 + 1)).filter fun d => !p d).length = i0 := by
        rw [take_next h3, List.filter_append, ← h2]
        simp [h4]
        omega
      simp only [hq]
      (simp only [go_sem, idxJ, F])
    · (simp only [go_sem, idxJ, F])
    try clear e0 e1 g0 g1 h1 h2 h3 h4 hi
    rintro ⟨j, L⟩ ws es ⟨⟨hj, hL, hc, ht, hd⟩, v1, e0, e1⟩
    simp only at hj hL hc ht hd
    generalize hcn : ((l.take j).filter fun d => !p d).length = c at *
    by_cases hlt : j < l.length
    · obtain ⟨d, hx⟩ : ∃ x, l[j]? = some x := ⟨l[j], List.getElem?_eq_getElem hlt⟩
      have hxL : L[j]? = some d := by
        have := congrArg (fun q : List Int => q[0]?) hd
        simpa [hx] using this
      have f1 := hp d
      have g1 : (j : Int) < (L.length : Int) := by omega
      have g2 := wrap_succ hlt (by omega)
      have g3 := take_next hx
      cases h1 : p d
      · rw [h1] at f1
        obtain ⟨y, hy⟩ : ∃ x, L[c]? = some x := ⟨L[c]'(by omega), List.getElem?_eq_getElem (by omega)⟩
        have g4 : (c : Int) < (L.length : Int) := by omega
        have g5 : IntKind.i64.wrap ((c : Int) + 1) = ((c + 1 : Nat) : Int) := wrap_succ (show c < l.length by omega) (by omega)
        have hq : ((l.take (j + 1)).filter fun d => !p d) = (l.take j).filter (fun d => !p d) ++ [d] := by rw [g3, List.filter_append]; simp [h1]
        have hs : (L.map intAV).set c [I d] = (L.set c d).map intAV := by rw [List.map_set]
        have F := And.intro hxL <| And.intro hy <| And.intro e0 <| And.intro e1 <| And.intro g1 <| And.intro g2 <| And.intro g4 <| And.intro g5 <| hs
        repeat refine st ?_
        refine oL (callOf_clo rfl (by simp only [go_sem, F]; exact iR)) (f1.lend rfl) (by simp only [go_sem, F]; exact iR) (by simp only [go_sem, F]; exact ⟨rfl, rfl⟩) ?_
        repeat refine st ?_
        refine ⟨(j + 1, L.set c d), ⟨⟨hlt, by simpa using hL, ?_, ?_, ?_⟩, ?_, ?_, ?_⟩, ?_, ?_, ?_⟩
        · simp only [hq, List.length_append, List.length_singleton, hcn]; omega
        · simp only [hq, List.length_append, List.length_singleton, hcn]
          rw [← ht]
          apply List.ext_getElem?
          intro k
          rw [List.getElem?_take, List.getElem?_set]
          by_cases hk : k < c
          · rw [if_pos (by omega), if_neg (by omega), List.getElem?_append_left (by simp; omega), List.getElem?_take, if_pos hk]
          · by_cases hk2 : k = c
            · subst hk2
              rw [if_pos (by omega), if_pos rfl, if_pos (by omega), List.getElem?_append_right (by rw [List.length_take]; omega), List.length_take, Nat.min_eq_left (by omega)]
              simp
            · rw [if_neg (by omega), List.getElem?_eq_none (by rw [List.length_append, List.length_take, List.length_singleton]; omega)]
        · simp only
          rw [List.drop_set_of_lt (by omega)]
          have := congrArg (List.drop 1) hd
          simpa [List.drop_drop] using this
        · simp only [go_sem, v1]
        · simp only [go_sem, e0]
        · simp only [go_sem, e1]
        · have hq2 : ((l.take (j + 1)).filter fun d => !p d).length = c + 1 := by rw [hq, List.length_append, hcn]; rfl
          simp only [hq2]
          (simp only [go_sem, F])
        · (simp only [go_sem, F])
        · simp only; omega
      · rw [h1] at f1
        have hq : ((l.take (j + 1)).filter fun d => !p d) = (l.take j).filter (fun d => !p d) := by rw [g3, List.filter_append]; simp [h1]
        have F := And.intro hxL <| And.intro e0 <| And.intro e1 <| And.intro g1 <| g2
        repeat refine st ?_
        refine oL (callOf_clo rfl (by simp only [go_sem, F]; exact iR)) (f1.lend rfl) (by simp only [go_sem, F]; exact iR) (by simp only [go_sem, F]; exact ⟨rfl, rfl⟩) ?_
        repeat refine st ?_
        refine ⟨(j + 1, L), ⟨⟨hlt, hL, ?_, ?_, ?_⟩, ?_, ?_, ?_⟩, ?_, ?_, ?_⟩
        · simp only [hq, hcn]; omega
        · simp only [hq, hcn]; exact ht
        · simp only
          have := congrArg (List.drop 1) hd
          simpa [List.drop_drop] using this
        · simp only [go_sem, v1]
        · simp only [go_sem, e0]
        · simp only [go_sem, e1]
        · simp only [hq, hcn]
          (simp only [go_sem, F])
        · (simp only [go_sem, F])
        · simp only; omega
    · have g1 : ¬ (j : Int) < (L.length : Int) := by omega
      have hjl : l.take j = l := List.take_of_length_le (by omega)
      rw [hjl] at ht hcn
      have g4 : (c : Int) ≤ (L.length : Int) := by omega
      have g5 : c ≤ L.length := by omega
      have g6 : ∀ X : List (List AV), ((L.take c).map intAV ++ X).take c = (l.filter fun d => !p d).map intAV := fun X => by
        rw [List.take_left' (by rw [List.length_map, List.length_take]; omega), ht]
      have g7 : c + (L.length - c) = L.length := by omega
      have g8 : min c L.length = c := by omega
      have F := And.intro v1 <| And.intro e0 <| And.intro e1 <| And.intro g1 <| And.intro g4 <| And.intro g5 <| And.intro g6 <| And.intro g7 <| g8
      repeat (first | refine oO rfl (by simp only [go_sem, List.length_take, List.length_replicate, F]; exact ⟨rfl, rfl⟩) ?_ | refine gR ?_ | refine gO ?_ | refine oZ (d_end ?_) | refine oZ ?_ | refine oS ?_ | refine gT ?_ | refine gD Tryz.mixed ?_ | refine oB ?_ | refine oK ?_ | (refine oX ?_; simp only [thenA, blockA, ↓reduceIte, Nat.reduceEqDiff, reduceCtorEq]) | refine oY (by simp only [go_sem, List.length_take, List.length_replicate, F]; exact iR) ?_ | refine oN (by simp only [go_sem, List.length_take, List.length_replicate, F]; exact iR) ?_)
      (refine awp_ret ?_; (try simp only [thenA, blockA, ↓reduceIte, Nat.reduceEqDiff, reduceCtorEq]); refine retI_of ?_ ?_ <;> simp only [go_sem, List.length_take, List.length_replicate, F, implies_true, and_self, imp_self, false_implies, AV.tuple.injEq, exists_eq_left', ne_eq])
end Go.Proofs.YtlmekdfleciejaaGreatDoor
set_option linter.unusedSimpArgs false
namespace Go.Proofs.YtlmekdfleciejaaGreatDoor
open Go.RowKit
set_option maxRecDepth 100000
set_option maxHeartbeats 16000000
theorem check0_con (env : Env) (c : ChD) : Con Tryz.prog env 59 [tabAV c, nilS] nilE := by
  have q1 : ¬ (0 : Int) < 0 := by omega
  unfold tabAV
  refine con_of_body Tryz.func59 rfl Tryz.call59 (by rw [Tryz.ntmps59]; simp) ?_
  rw [Tryz.ntmps59, Tryz.results59]
  repeat refine st0 ?_
  refine awp_loopH (D := Unit) (fun _ vs => [(12, I 0), (13, I 0)]) (fun _ _ => []) (fun _ _ _ => True) (fun _ => 0) () trivial ?_ ?_ ?_
  · (simp only [go_sem])
    try rfl
  · (simp only [go_sem])
    try rfl
  rintro _ ws esc _
  have F := q1
  repeat refine st ?_
  exact aR
theorem copied0_con (env : Env) : Con Tryz.prog env 157 [nilS] nilS := by
  have q1 : ¬ (0 : Int) < 0 := by omega
  refine con_of_body Tryz.func157 rfl Tryz.call157 (by rw [Tryz.ntmps157]; simp) ?_
  rw [Tryz.ntmps157, Tryz.results157]
  repeat refine st0 ?_
  refine awp_loopH (D := Unit) (fun _ vs => [(3, nilS), (7, I 0), (8, I 0)]) (fun _ _ => []) (fun _ _ _ => True) (fun _ => 0) () trivial ?_ ?_ ?_
  · (simp only [go_sem])
    try rfl
  · (simp only [go_sem])
    try rfl
  rintro _ ws esc _
  have F := q1
  repeat refine st ?_
  exact aR
theorem remember0_con (env : Env) (c : ChD) (h : Full c) (hs : Small c) (act gone : List Int) (hl : gone.length ≤ 1000000) (hg : ∀ x ∈ gone, inZ c x = true ∧ memL c x = []) : Con Tryz.prog env 102 [tabAV c, .seq 1 (act.map intAV), .seq 1 (gone.map intAV), nilS] nilS := by
  have f0 := tabChart_con env c hs
  have f1 := copied0_con env
  have q0 : ¬ (0 : Int) < 0 := by omega
  unfold tabAV at f0 ⊢
  refine con_of_body Tryz.func102 rfl Tryz.call102 (by rw [Tryz.ntmps102]; simp) ?_
  rw [Tryz.ntmps102, Tryz.results102]
  repeat (first | refine st0 ?_ | refine cC0 f0 ?_ | refine cC0 f1 ?_)
  refine awp_loopH (D := Nat) (fun j vs => [(0, .ref 9 [tabCells c] 0 0), (9, .loc 9 (vs 9) 0 0), (10, nilS), (22, .seq 1 (gone.map intAV)), (23, I gone.length), (24, I j)]) (fun _ _ => [(9, ⟨5, [chAV c], 26, false⟩)]) (fun j _ _ => j ≤ gone.length) (fun j => gone.length - j) 0 ?_ ?_ ?_ ?_
  · exact Nat.zero_le _
  · (simp only [go_sem])
    try rfl
  · have F := chAV.eq_1
    (simp only [go_sem, F])
    try rfl
  rintro j ws esc hj
  by_cases hlt : j < gone.length
  · obtain ⟨x, hx⟩ : ∃ x, gone[j]? = some x := ⟨gone[j], List.getElem?_eq_getElem hlt⟩
    have q1 := nlt hlt
    have q2 := wrap_succ hlt (by omega)
    obtain ⟨hz, hm⟩ := hg x (List.mem_of_getElem? hx)
    obtain ⟨k, s, rfl, hsk, hat⟩ := at_in hz
    have hk := (List.getElem?_eq_some_iff.1 hsk).1
    have q3 : ((k : Nat) : Int) < (c.states.length : Int) := by omega
    have f2 := tabMem_con env c h k
    rw [hm] at f2
    unfold tabAV at f2
    by_cases hk1 : s.kind = 1
    · have b1 : (s.kind == 1) = true := by simp [hk1]
      have F := And.intro chAV.eq_1 <| And.intro stAV.eq_1 <| And.intro hx <| And.intro q1 <| And.intro q2 <| And.intro q3 <| And.intro hsk <| And.intro b1 <| bneA
      repeat (first | refine st ?_ | refine cC f2 ?_)
      refine awp_loopH (D := Unit) (fun _ vs => [(0, .ref 9 [tabCells c] 0 0), (9, .loc 9 (vs 9) 0 0), (10, nilS), (22, .seq 1 (gone.map intAV)), (23, I gone.length), (24, I j), (38, I 0), (39, I 0)]) (fun _ _ => [(9, ⟨5, [chAV c], 26, false⟩)]) (fun _ _ _ => True) (fun _ => 0) () trivial ?_ ?_ ?_
      · (simp only [go_sem, F])
        try rfl
      · have F := chAV.eq_1
        (simp only [go_sem, F])
        try rfl
      rintro _ us es _
      have F := And.intro q0 <| q2
      repeat refine st ?_
      refine ⟨j + 1, hlt, ?_, ?_, by omega⟩
      · (simp only [go_sem, F])
      · have F := chAV.eq_1
        (simp only [go_sem, F])
    · have b1 : (s.kind == 1) = false := by simpa using hk1
      have F := And.intro chAV.eq_1 <| And.intro stAV.eq_1 <| And.intro hx <| And.intro q1 <| And.intro q2 <| And.intro q3 <| And.intro hsk <| And.intro b1 <| bneA
      repeat (first | refine st ?_ | refine cC f2 ?_)
      refine ⟨j + 1, hlt, ?_, ?_, by omega⟩
      · (simp only [go_sem, F])
      · have F := chAV.eq_1
        (simp only [go_sem, F])
  · obtain rfl : j = gone.length := by omega
    have q1 : ¬ (gone.length : Int) < (gone.length : Int) := by omega
    have F := q1
    repeat refine st ?_
    exact aR
theorem gone_con (env : Env) (G : List Int) (hG : G.length ≤ 1000000) (i : Int) : Con Tryz.prog env 104 [I i, .ref 1 [[.seq 1 (G.map intAV)]] 0 0] (B (G.contains i)) := by
  have f0 := containsZ_con env G i hG
  refine con_of_body Tryz.func104 rfl Tryz.call104 (by rw [Tryz.ntmps104]; simp) ?_
  rw [Tryz.ntmps104, Tryz.results104]
  repeat (first | refine st0 ?_ | refine cC0 f0 ?_)
  exact aR0
end Go.Proofs.YtlmekdfleciejaaGreatDoor
set_option linter.unusedSimpArgs false
namespace Go.Proofs.YtlmekdfleciejaaGreatDoor
open Go.RowKit
set_option maxRecDepth 100000
set_option maxHeartbeats 16000000
def stayL (G act : List Int) : List Int := act.filter fun i => !G.contains i
def moved (G act : List Int) (T : List Nat) : List Int := Lib.compact (sortZ (stayL G act ++ zL T))
theorem sortZ_len (l : List Int) : (sortZ l).length = l.length := by unfold sortZ; rw [List.length_mergeSort]
theorem move0_con (env : Env) (a1 a8 : Addr) (he : ChEnv env a1 a8) (c : ChD) (h : Full c) (hs : Small c) (act : List Int) (hl : act.length ≤ 1000) (k : Nat) (t : TrD) (ht : c.trans[k]? = some t) (hb : lgB c act = true) (htg : inZ c t.target = true) (hgl : (leaveR c act t).length ≤ 1000) (hg : ∀ x ∈ leaveR c act t, inZ c x = true ∧ memL c x = []) (htl : (tgtL c t.src t.target []).length ≤ 1000) :
    Con Tryz.prog env 51 [tabAV c, .seq 1 (act.map intAV), I k, nilS] (.tuple [.seq 1 ((moved (leaveR c act t) act (tgtL c t.src t.target [])).map intAV), nilS, nilE]) := by
  have f0 := Leave_con env a1 a8 he c h hs act (by omega) k t ht hb
  have f1 := check0_con env c
  have f2 := remember0_con env c h hs act (leaveR c act t) (by omega) hg
  have f3 := cloneI_con env (act.map intAV) (by rw [List.length_map]; omega)
  have f4 := deleteFZ_con env act (fun i => (leaveR c act t).contains i) 104 (leaveR c act t) 35 (gone_con env _ (by omega)) (by omega)
  have f5 := tran_con env c hs k t ht
  have f6 : Con Tryz.prog env 106 [tabAV c, .agg (trAV t), nilS] _ := (target_con env c h hs t (h.src ht).1 htg [] (by simp) (by simp) rfl).args (.cons (.refl _) (.cons (.refl _) (.cons (.nil 2) .nil)))
  have q0 : 0 ≤ t.target := (inZ_iff.1 htg).1
  have hsl : (stayL (leaveR c act t) act).length ≤ 1000 := Nat.le_trans (List.length_filter_le ..) hl
  have hf : Fits ((stayL (leaveR c act t) act).length + (tgtL c t.src t.target []).length) 8 := fits_small (by omega) (by omega)
  rw [show (act.filter fun i => !(leaveR c act t).contains i) = stayL (leaveR c act t) act from rfl] at f4
  generalize leaveR c act t = G at *
  generalize tgtL c t.src t.target [] = T at *
  unfold moved
  generalize stayL G act = L at *
  have hz : (zL T).map intAV = T.map natAV := zL_int T
  have g1 := sortI_turns (L ++ zL T) (by rw [List.length_append, zL_len]; omega)
  have g2 := compI_cuts (sortZ (L ++ zL T)) (by rw [sortZ_len, List.length_append, zL_len]; omega)
  unfold trAV at f5 f6
  unfold tabAV at f0 f1 f2 f5 f6 ⊢
  refine con_of_body Tryz.func51 rfl Tryz.call51 (by rw [Tryz.ntmps51]; simp) ?_
  rw [Tryz.ntmps51, Tryz.results51]
  have F := q0
  repeat (first | refine st ?_ | refine cC f0 ?_ | refine cC f1 ?_ | refine cC f2 ?_ | refine cC f3 ?_)
  refine aops_inl [(1000, 39), (1001, 11)] rfl (f4) (by decide) (by decide) (by simp only [go_sem, F] <;> rfl) (by simp only [go_sem, F, and_self] <;> trivial) (by simp only [go_sem, F, and_self] <;> trivial) (by intro o; simp only [go_sem, F, behind, and_self] <;> trivial) (by intro o; simp only [go_sem, F] <;> rfl) (by simp only [go_sem, F, behind]; exact iR) (by simp only [go_sem, F, behind]; exact iR) ?_
  have F := And.intro q0 <| hf
  repeat (first | refine st ?_ | refine cC f5 ?_ | refine cC f6 ?_)
  have hap : (L ++ zL T).map intAV = L.map intAV ++ T.map natAV := by rw [List.map_append, hz]
  refine g_turn 39 rfl (row := ⟨1, (L ++ zL T).map intAV, 3, true⟩) g1 (Nat.succ_ne_zero 0) rfl (litEs_int _).symm (by simp only [go_sem]; exact iR) (by simp only [go_sem, hap]; exact iR) (by simp only [go_sem]; exact iR) (by simp only [go_sem]; exact iR) ?_
  rw [litEs_int]
  repeat refine st ?_
  refine aops_cut 39 rfl (row := ⟨1, (sortZ (L ++ zL T)).map intAV, 3, true⟩) g2 (Nat.succ_ne_zero 0) rfl (litEs_int _).symm (by simp only [go_sem]; exact iR) (by simp only [go_sem]; exact iR) (by simp only [go_sem]; exact iR) (by simp only [go_sem]; exact iR) iR ?_
  rw [litEs_int]
  repeat refine st ?_
  exact aR
end Go.Proofs.YtlmekdfleciejaaGreatDoor
set_option linter.unusedSimpArgs false
namespace Go.Proofs.YtlmekdfleciejaaGreatDoor
open Go.RowKit Go.ChangeShapes
theorem Tryz.tabArr : Tryz.prog.underlying 236 = some (.array 32 5) := by kernel_rfl
theorem cellsU8 : Tryz.prog.cellsOf 5 = 1 := by kernel_rfl
theorem tab_of {W : World} {g t : Nat} {cs : Array Value} {fuel : Nat} {p : List MemPlace} (hg : Tryz.prog.globalNamed "math/bits.deBruijn32tab" = some g) (ht : (Tryz.prog.globals[g]?).map (·.type) = some t) (hv : W.var? Tryz.prog "math/bits.deBruijn32tab" = some cs)
    (hd : DataW.trod (fun _ => ()) Tryz.prog W 0 (fun _ => true) false fuel t cs.toList = some (Rows.laid_math_bits_deBruijn32tab, p)) : TabAt W := by
  obtain rfl : 10 = g := Option.some.inj ((show Tryz.prog.globalNamed "math/bits.deBruijn32tab" = some 10 by kernel_rfl).symm.trans hg)
  obtain rfl : 236 = t := Option.some.inj ((show (Tryz.prog.globals[10]?).map (·.type) = some 236 by kernel_rfl).symm.trans ht)
  obtain ⟨xs, m, _, hx, _, hxl, hgx⟩ := DataW.trod_array Tryz.tabArr hd
  simp only [Prod.mk.injEq] at hx
  intro j hj
  have h1 := hgx j hj
  rw [cellsU8, Nat.mul_one] at h1
  have hjx : xs[j]? = some (xs[j]'(by omega)) := List.getElem?_eq_getElem _
  rw [hjx] at h1
  obtain ⟨nn, e1, e2, _⟩ := DataW.trod_int Tryz.underlying5 h1
  have hcell : cs[j]? = some (.int .u8 nn) := by
    have : ((cs.toList.drop j).take 1)[0]? = some (.int .u8 nn) := by rw [e1]; rfl
    rw [List.getElem?_take, if_pos (by omega), List.getElem?_drop, Nat.add_zero] at this
    simpa using this
  have hval : (Rows.laid_math_bits_deBruijn32tab : DataW Unit) = .agg (xs.map (·.1)) := hx.1
  have hlist : (xs.map (·.1))[j]? = (Lib.deBruijn32tab.map fun (k : Nat) => DataW.lit (H := Unit) (.int .u8 (k : Int)))[j]? := by
    have e : (Lib.deBruijn32tab.map fun (k : Nat) => DataW.lit (H := Unit) (.int .u8 (k : Int))) = xs.map (·.1) := by
      have : DataW.agg (Lib.deBruijn32tab.map fun (k : Nat) => DataW.lit (H := Unit) (.int .u8 (k : Int))) = DataW.agg (xs.map (·.1)) := by
        rw [← hval]
        rfl
      injection this
    rw [e]
  rw [List.getElem?_map, hjx, List.getElem?_map] at hlist
  have hdb : Lib.deBruijn32tab[j]? = some (Lib.deBruijn32tab.getD j 0) := by
    have : j < Lib.deBruijn32tab.length := by simpa [Lib.deBruijn32tab] using hj
    simp [List.getD, List.getElem?_eq_getElem this]
  rw [hdb] at hlist
  simp only [Option.map_some, Option.some.injEq, e2] at hlist
  have hn : nn = ((Lib.deBruijn32tab.getD j 0 : Nat) : Int) := by
    have := hlist
    injection this with this
    injection this
  rw [World.var?_cell hg hv j, hcell, hn]
theorem con_runT {P : Program} {env : Env} {f : FuncId} {cs : List AV} {u : Value} {w : World} {vs : List Value} (h : Con P env f cs (.lit u)) (hE : EnvOk env (fun b _ => b < w.heap.size) w) (hv : RAs (fun b _ => b < w.heap.size) w vs cs) :
    Calls P f vs.toArray w fun e w' => e = .returned u ∧ Below w.heap.size w w' := (con_call h hE (fun _ _ _ => by simp) hv).mono (by
  rintro e w' ⟨v, rfl, hb, _, hv⟩
  exact ⟨by rw [hv.lit_inv], hb⟩)
end Go.Proofs.YtlmekdfleciejaaGreatDoor
set_option linter.unusedSimpArgs false
namespace Go.Proofs.YtlmekdfleciejaaGreatDoor
open Go.RowKit Go.ChangeShapes
theorem laid_tab9 {W : World} (h : laidMetH Tryz.prog [("math/bits.deBruijn32tab", Rows.laid_math_bits_deBruijn32tab), ("scrinium/api.ErrForm", Rows.laid_scrinium_api_ErrForm), ("scrinium/api.ErrRange", Rows.laid_scrinium_api_ErrRange), ("scrinium/api.ErrFull", Rows.laid_scrinium_api_ErrFull), ("scrinium/api.ErrNone", Rows.laid_scrinium_api_ErrNone), ("scrinium/api.ErrCorrupt", Rows.laid_scrinium_api_ErrCorrupt), ("scrinium/api.ErrFuel", Rows.laid_scrinium_api_ErrFuel), ("scrinium/api.ErrState", Rows.laid_scrinium_api_ErrState), ("scrinium/api.ErrLong", Rows.laid_scrinium_api_ErrLong), ("scrinium/api.ErrTwice", Rows.laid_scrinium_api_ErrTwice)] W) : (∃ ad, Sents W ad) ∧ TabAt W := by
  rw [MakeChecks.laidMetH_plain _ _ _ (by kernel_rfl)] at h
  obtain ⟨ps, hv, hnd, hrows⟩ := h
  obtain ⟨g0, t0, cs0, f0, p0, q0, hg0, ht0, hv0, hd0, hrest, rfl⟩ := hv
  refine ⟨sents_of_nine ?_, tab_of hg0 ht0 hv0 hd0⟩
  rw [MakeChecks.laidMetH_plain _ _ _ (by kernel_rfl)]
  exact ⟨q0, hrest, (List.nodup_append.1 hnd).2.1, fun b off hh => hrows b off (List.mem_append_right _ hh)⟩
def lgMore : More := ⟨fun w => TabAt w, fun _ _ h hb => TabAt.below h hb⟩
theorem lgEnv_ch (ad : Nat → Addr) : ChEnv (errEnv ad lgMore) (ad 1) (ad 8) := ⟨rfl, rfl⟩
theorem lgEnv_tab (ad : Nat → Addr) : ∀ W, (errEnv ad lgMore).inv W → TabAt W := fun _ h => h.2
end Go.Proofs.YtlmekdfleciejaaGreatDoor
