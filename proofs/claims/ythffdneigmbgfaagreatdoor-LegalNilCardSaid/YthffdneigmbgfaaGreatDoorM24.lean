/- table.New, of a right chart. -/
import Derived.Test.YthffdneigmbgfaaGreatDoorM23
import Derived.Test.YthffdneigmbgfaaGreatDoorM7
set_option linter.unusedSimpArgs false
namespace Go.Proofs.YthffdneigmbgfaaGreatDoor
open Go.RowKit
set_option maxRecDepth 100000
set_option maxHeartbeats 4000000
def mapEs (c : ChD) (j : Nat) (vs : Nat → Nat) : List (List AV) := (keysTo c j).mapIdx fun q p => [.agg [I p.1, I p.2], .row (q + 6000) (vs (q + 6000))]
def keyRows (c : ChD) (j : Nat) : List Row := (keysTo c j).map fun p => ⟨1, (rowTo c j p).map natAV, 3, true⟩
def transE (c : ChD) : List (List AV) := (keysTo c c.trans.length).map fun p => [.agg [I p.1, I p.2], .seq 1 ((rowTo c c.trans.length p).map natAV)]
def begE (c : ChD) (j : Nat) : List (List AV) := (List.range j).map fun i => [.seq 1 ((sbL c i).map natAV)]
def tabCells (c : ChD) : List AV := [Sg c.name, I c.initial, varsAV c.vars, stsAV c.states, trsAV c.trans, treeAV c, .seq 1 ((evL c).map strAV), .fmap (transE c), .seq 1 (begE c c.states.length)]
def tabAV (c : ChD) : AV := .ref 9 [tabCells c] 0 0
theorem mapEs_len (c : ChD) (j : Nat) (vs : Nat → Nat) : (mapEs c j vs).length = (keysTo c j).length := by simp [mapEs]
theorem mapEs_at (c : ChD) (j : Nat) (vs : Nat → Nat) (q : Nat) : (mapEs c j vs)[q]? = ((keysTo c j)[q]?).map fun p => [.agg [I p.1, I p.2], .row (q + 6000) (vs (q + 6000))] := by simp [mapEs]
theorem keyRows_at (c : ChD) (j q : Nat) : (keyRows c j)[q]? = ((keysTo c j)[q]?).map fun p => ⟨1, (rowTo c j p).map natAV, 3, true⟩ := by simp [keyRows]
theorem mfind_K (p : Int × Int) (f : Nat → AV) : ∀ (l : List (Int × Int)) (i : Nat), mfind Tryz.prog 97 (.agg [I p.1, I p.2]) (l.mapIdx fun q k => [.agg [I k.1, I k.2], f q]) i = some (idxP p l i)
  | [], i => rfl
  | (a, b) :: l, i => by
    have ih := mfind_K p (fun q => f (q + 1)) l (i + 1)
    obtain ⟨kn, ks⟩ := p
    rw [List.mapIdx_cons]
    by_cases h : kn = a ∧ ks = b
    · obtain ⟨rfl, rfl⟩ := h
      have e1 : (kn == kn) = true := by simp
      have e2 : (ks == ks) = true := by simp
      simp only [go_sem, eqFs, eqCell, e1, e2, idxP]
    · have e1 : (kn == a && (ks == b)) = false := by
        rw [Bool.eq_false_iff]
        intro e
        simp only [Bool.and_eq_true, beq_iff_eq] at e
        exact h e
      have e2 : ¬ ((kn, ks) : Int × Int) = (a, b) := fun e => h (by simpa using e)
      simp only at ih
      simp only [go_sem, eqFs, eqCell, e1, idxP, e2, ih]
theorem mfind_map (c : ChD) (j : Nat) (vs : Nat → Nat) (a b : Int) : mfind Tryz.prog 97 (.agg [I a, I b]) (mapEs c j vs) 0 = some (idxP (a, b) (keysTo c j) 0) := mfind_K (a, b) (fun q => .row (q + 6000) (vs (q + 6000))) (keysTo c j) 0
theorem mfind_E (c : ChD) (a b : Int) : mfind Tryz.prog 97 (.agg [I a, I b]) (transE c) 0 = some (idxP (a, b) (keysTo c c.trans.length) 0) := by
  have : transE c = (keysTo c c.trans.length).mapIdx fun q k => [.agg [I k.1, I k.2], ((transE c)[q]?.bind (·[1]?)).getD .any] := by
    apply List.ext_getElem?
    intro q
    rw [List.getElem?_mapIdx]
    unfold transE
    rw [List.getElem?_map]
    cases (keysTo c c.trans.length)[q]? with
    | none => rfl
    | some p => rfl
  rw [this]
  exact mfind_K (a, b) _ _ 0
/-! The state at the head of the loop -/
def boxA (c : ChD) (g : Nat → Nat) : Row := ⟨9, [[Sg c.name, I c.initial, varsAV c.vars, stsAV c.states, trsAV c.trans, treeAV c, .seq 1 ((evL c).map strAV), .mp 25 (g 25), nilS]], 95, false⟩
def RA (c : ChD) (j : Nat) (g : Nat → Nat) : List (Nat × Row) := (1, ⟨5, [chAV c], 26, false⟩) :: (27, boxA c g) :: (25, ⟨0, mapEs c j g, 92, false⟩) :: rowsAt 6000 (keyRows c j)
theorem RA_key (c : ChD) (j : Nat) (q : Nat) : headR (rowsAt 6000 (keyRows c j)) (q + 6000) = (keyRows c j)[q]? := by
  rw [headR_rowsAt, if_pos (by omega), show q + 6000 - 6000 = q by omega]
theorem mapEs_keep {c : ChD} {j q : Nat} {p : Int × Int} {g g' : Nat → Nat} (hk : keysTo c (j + 1) = keysTo c j) (hq : (keysTo c j)[q]? = some p) (h1 : ∀ k, k ≠ q → g' (k + 6000) = g (k + 6000)) {v : Nat} (h2 : g' (q + 6000) = v) : (mapEs c j g).set q [.agg [I p.1, I p.2], .row (q + 6000) v] = mapEs c (j + 1) g' := by
  apply List.ext_getElem?
  intro k
  rw [List.getElem?_set, mapEs_at, mapEs_at, mapEs_len, hk]
  by_cases e : q = k
  · subst e
    rw [if_pos rfl, if_pos (List.getElem?_eq_some_iff.1 hq).1, hq, ← h2]
    rfl
  · rw [if_neg e]
    cases (keysTo c j)[k]? with
    | none => rfl
    | some p' => simp only [Option.map_some, h1 k (Ne.symm e)]
theorem mapEs_same {c : ChD} {j q : Nat} {p : Int × Int} {g : Nat → Nat} (hq : (keysTo c j)[q]? = some p) : (mapEs c j g).set q [.agg [I p.1, I p.2], .row (q + 6000) (g (q + 6000))] = mapEs c j g := by
  apply List.ext_getElem?
  intro k
  rw [List.getElem?_set, mapEs_at, mapEs_len]
  by_cases e : q = k
  · subst e
    rw [if_pos rfl, if_pos (List.getElem?_eq_some_iff.1 hq).1, hq]
    rfl
  · rw [if_neg e]
theorem mapEs_push {c : ChD} {j : Nat} {g g' : Nat → Nat} (hk : keysTo c (j + 1) = keysTo c j ++ [keyAt c j]) (h1 : ∀ k, k < (keysTo c j).length → g' (k + 6000) = g (k + 6000)) {v : Nat} (h2 : g' ((keysTo c j).length + 6000) = v) : mapEs c j g ++ [[.agg [I (keyAt c j).1, I (keyAt c j).2], .row ((keysTo c j).length + 6000) v]] = mapEs c (j + 1) g' := by
  apply List.ext_getElem?
  intro k
  rw [mapEs_at, hk]
  by_cases hlt : k < (keysTo c j).length
  · rw [List.getElem?_append_left (by rw [mapEs_len]; exact hlt), List.getElem?_append_left hlt, mapEs_at, List.getElem?_eq_getElem hlt]
    simp only [Option.map_some, h1 k hlt]
  · rw [List.getElem?_append_right (by rw [mapEs_len]; omega), List.getElem?_append_right (by omega), mapEs_len]
    by_cases e : k = (keysTo c j).length
    · subst e
      simp [h2]
    · rw [List.getElem?_eq_none (by simp; omega), List.getElem?_eq_none (by simp; omega)]
      rfl
theorem keyRows_keep {c : ChD} {j q : Nat} {p : Int × Int} (hk : keysTo c (j + 1) = keysTo c j) (hp : keyAt c j = p) (hn : (keysTo c j).Nodup) (hq : (keysTo c j)[q]? = some p) (k : Nat) : (keyRows c (j + 1))[k]? = if k = q then some ⟨1, (rowTo c j p).map natAV ++ [[I j]], 3, true⟩ else (keyRows c j)[k]? := by
  rw [keyRows_at, keyRows_at, hk]
  by_cases e : k = q
  · subst e
    rw [if_pos rfl, hq]
    simp only [Option.map_some, row_succ, hp, if_true, List.map_append, List.map_cons, List.map_nil, natAV]
  · rw [if_neg e]
    cases hk2 : (keysTo c j)[k]? with
    | none => rfl
    | some p' =>
      have hne : ¬ p = p' := fun e2 => by
        subst e2
        obtain ⟨a1, b1⟩ := List.getElem?_eq_some_iff.1 hq
        obtain ⟨a2, b2⟩ := List.getElem?_eq_some_iff.1 hk2
        have hpw := List.pairwise_iff_getElem.1 (List.nodup_iff_pairwise_ne.1 hn)
        rcases Nat.lt_trichotomy k q with hlt | hlt | hlt
        · exact hpw k q a2 a1 hlt (b2.trans b1.symm)
        · exact e hlt
        · exact hpw q k a1 a2 hlt (b1.trans b2.symm)
      simp only [Option.map_some, row_succ, hp, if_neg hne]
theorem keyRows_push {c : ChD} {j : Nat} (hk : keysTo c (j + 1) = keysTo c j ++ [keyAt c j]) (hno : keyAt c j ∉ keysTo c j) (k : Nat) : (keyRows c (j + 1))[k]? = if k = (keysTo c j).length then some ⟨1, [[I j]], 3, true⟩ else (keyRows c j)[k]? := by
  rw [keyRows_at, keyRows_at, hk]
  by_cases e : k = (keysTo c j).length
  · subst e
    simp only [if_true, List.getElem?_append_right (Nat.le_refl _), Nat.sub_self, List.getElem?_cons_zero, Option.map_some, row_succ, row_none hno, List.nil_append, List.map_cons, List.map_nil, natAV]
  · rw [if_neg e]
    by_cases hlt : k < (keysTo c j).length
    · rw [List.getElem?_append_left hlt, List.getElem?_eq_getElem hlt]
      have hne : ¬ keyAt c j = (keysTo c j)[k] := fun e2 => hno (e2 ▸ List.getElem_mem hlt)
      simp only [Option.map_some, row_succ, if_neg hne]
    · rw [List.getElem?_eq_none (by simp; omega), List.getElem?_eq_none (by omega)]
      rfl
def FA (c : ChD) (j : Nat) (g : Nat → Nat) : List (Nat × AV) := [(1, .loc 1 (g 1) 0 0), (2, .lit (.pointer none)), (3, .lit .nilIface), (4, treeAV c), (6, .loc 27 (g 27) 0 0), (32, trsAV c.trans), (33, I c.trans.length), (34, I j)]
def RN (c : ChD) (j : Nat) (g : Nat → Nat) : List (Nat × Row) := (1, ⟨5, [chAV c], 26, false⟩) :: (27, boxA c g) :: (25, ⟨0, mapEs c j g ++ [[.agg [I (keyAt c j).1, I (keyAt c j).2], .row 55 (g 55)]], 92, false⟩) :: (55, ⟨1, [[I j]], 3, true⟩) :: rowsAt 6000 (keyRows c j)
theorem mapEs_see (c : ChD) (j : Nat) (vs : Nat → Nat) {g gm : Nat → Nat → Option AV} (h : ∀ q v, g (q + 6000) v = none) : (mapEs c j vs).map (·.map (AV.see g gm)) = mapEs c j vs := by
  apply List.ext_getElem?
  intro q
  rw [List.getElem?_map, mapEs_at]
  cases (keysTo c j)[q]? with
  | none => rfl
  | some p => simp only [Option.map_some, List.map_cons, List.map_nil, AV.see, AV.see.seeL, h, Option.getD_none]
theorem boxA_see (c : ChD) (vs : Nat → Nat) {g gm : Nat → Nat → Option AV} (h : ∀ v, gm 25 v = none) : (boxA c vs).see g gm = boxA c vs := by
  simp only [Row.see, boxA, List.map_cons, List.map_nil, AV.see, AV.see.seeL, h, Option.getD_none, treeAV, Bool.false_eq_true, if_false]
theorem ch_see (c : ChD) {g gm : Nat → Nat → Option AV} : (chAV c).map (AV.see g gm) = chAV c := rfl
theorem renSt_row {s : St} {r r2 : Nat} {row : Row} {k : Nat} : (renSt s r r2 row).rows k = if k = r2 then some row else if k = r then none else (s.rows k).map (Row.see (renAt r (s.vs r) r2 (s.vs r2 + 1)) fun _ _ => none) := rfl
theorem renAt_key (v n v2 q w : Nat) : renAt 55 v n v2 (q + 6000) w = none := by unfold renAt; rw [if_neg (by omega)]
theorem new_key {c : ChD} {j : Nat} (hk : keysTo c (j + 1) = keysTo c j ++ [keyAt c j]) (hno : keyAt c j ∉ keysTo c j) (F : Nat) {g : Nat → Nat} {e : Nat → Bool} (he : e 27 = false) : ∃ g' e', e' 27 = false ∧ Turned (head (FA c F g) (RN c j g) g e) (head (FA c F g') (RA c (j + 1) g') g' e') := by
  generalize hn : (keysTo c j).length = n at *
  have hr0 : (keyRows c j)[n]? = none := by rw [keyRows_at, List.getElem?_eq_none (by omega)]; rfl
  have hrow : (head (FA c F g) (RN c j g) g e).rows 55 = some ⟨1, [[I j]], 3, true⟩ := by simp [head, RN, headR]
  have hfree : (head (FA c F g) (RN c j g) g e).rows (n + 6000) = none := by
    have := RA_key c j n
    rw [hr0] at this
    simp only [head, RN, headR]
    rw [if_neg (by omega), if_neg (by omega), if_neg (by omega), if_neg (by omega), this]
  have t1 := Turned.ren (s := head (FA c F g) (RN c j g) g e) 55 (n + 6000) ⟨1, [[I j]], 3, true⟩ (by omega) hrow hfree (Nat.succ_ne_zero 0) rfl
  have hg : ∀ t, t ≠ n + 6000 → upd g (n + 6000) (g (n + 6000) + 1) t = g t := fun t ht => upd_ne _ _ _ ht
  refine ⟨upd g (n + 6000) (g (n + 6000) + 1), upd e (n + 6000) (e 55), by rw [upd_ne _ _ _ (by omega)]; exact he, t1.trans (Turned.head ?_ ?_)⟩
  · simp only [HoldF, FA, renSt, head, headF, AV.see, treeAV, hg 1 (by omega), hg 27 (by omega), if_true, Nat.reduceEqDiff, if_false, and_self, reduceCtorEq]
  · refine ⟨?_, ?_, ?_, holdR_rowsAt fun q r hq => ?_⟩
    · show (renSt _ _ _ _).rows 1 = some _
      rw [renSt_row, if_neg (by omega), if_neg (by omega)]
      simp only [head, RN, headR, if_true, Option.map_some, Row.see, List.map_cons, List.map_nil, ch_see, Bool.false_eq_true, if_false]
    · show (renSt _ _ _ _).rows 27 = some _
      rw [renSt_row, if_neg (by omega), if_neg (by omega)]
      simp only [head, RN, headR, if_true, Option.map_some, Nat.reduceEqDiff, if_false]
      rw [boxA_see _ _ fun _ => rfl]
      simp only [boxA, hg 25 (by omega)]
    · show (renSt _ _ _ _).rows 25 = some _
      rw [renSt_row, if_neg (by omega), if_neg (by omega)]
      simp only [head, RN, headR, if_true, Option.map_some, Nat.reduceEqDiff, if_false, Row.see, Bool.false_eq_true, List.map_append, List.map_cons, List.map_nil]
      rw [mapEs_see _ _ _ fun q v => renAt_key ..]
      have := mapEs_push (c := c) (j := j) (g := g) (g' := upd g (n + 6000) (g (n + 6000) + 1)) hk (fun k hk => hg _ (by omega)) (v := g (n + 6000) + 1) (by rw [hn, upd_same])
      rw [hn] at this
      rw [← this]
      simp [AV.see, AV.see.seeL, renAt]
    · rw [keyRows_push hk hno, hn] at hq
      show (renSt _ _ _ _).rows (q + 6000) = some _
      rw [renSt_row]
      by_cases e0 : q = n
      · subst e0
        rw [if_pos rfl] at hq ⊢
        exact hq
      · rw [if_neg e0] at hq
        rw [if_neg (by omega), if_neg (by omega)]
        simp only [head, RN, headR]
        rw [if_neg (by omega), if_neg (by omega), if_neg (by omega), if_neg (by omega), RA_key, hq]
        have hpu : r.pure = true := by
          rw [keyRows_at] at hq
          obtain ⟨p, _, rfl⟩ := Option.map_eq_some_iff.1 hq
          rfl
        simp only [Option.map_some, Row.see, hpu, if_true]
/-! The map, frozen -/
theorem seeAt_rows {g : Nat → Nat} {r v : Nat} : ∀ {l : List Row} {b : Nat}, seeAt (seesR g (rowsAt b l)) r v = if b ≤ r ∧ v = g r then (l[r - b]?).map fun row => .seq row.sz row.es else none
  | [], b => by simp [rowsAt, seesR, seeAt]
  | x :: l, b => by
    have ih := seeAt_rows (g := g) (r := r) (v := v) (l := l) (b := b + 1)
    simp only [seesR] at ih
    simp only [rowsAt, seesR, List.map_cons, seeAt, ih]
    by_cases h : r = b
    · subst h
      by_cases hv : v = g r
      · subst hv; simp
      · simp [hv]
    · rw [if_neg fun e => h e.1]
      by_cases h2 : b + 1 ≤ r
      · by_cases hv : v = g r
        · rw [if_pos ⟨h2, hv⟩, if_pos ⟨by omega, hv⟩, show r - b = (r - (b + 1)) + 1 by omega, List.getElem?_cons_succ]
        · rw [if_neg fun e => hv e.2, if_neg fun e => hv e.2]
      · rw [if_neg fun e => h2 e.1, if_neg fun e => by omega]
def boxF (c : ChD) : Row := ⟨9, [[Sg c.name, I c.initial, varsAV c.vars, stsAV c.states, trsAV c.trans, treeAV c, .seq 1 ((evL c).map strAV), .fmap (transE c), nilS]], 95, false⟩
theorem frozen_map {c : ChD} (F : Nat) {g : Nat → Nat} {e : Nat → Bool} (he : e 27 = false) : ∃ e', e' 27 = false ∧ Turned (head (FA c F g) (RA c c.trans.length g) g e) (head (FA c F g) [(1, ⟨5, [chAV c], 26, false⟩), (27, boxF c)] g e') := by
  generalize hn : c.trans.length = n at *
  have hL : SeesOk (head (FA c F g) (RA c n g) g e) (seesR g (rowsAt 6000 (keyRows c n))) := by
    intro p hp
    obtain ⟨x, hx, rfl⟩ := List.mem_map.1 hp
    obtain ⟨q, h1, h2⟩ := rowsAt_mem hx
    refine ⟨rfl, x.2, ?_, ?_, ?_, rfl⟩
    · simp only [head, RA, headR, h2]
      rw [if_neg (by omega), if_neg (by omega), if_neg (by omega), RA_key]
      exact h1
    · rw [keyRows_at] at h1
      obtain ⟨p, _, e0⟩ := Option.map_eq_some_iff.1 h1
      rw [← e0]
      exact Nat.succ_ne_zero 0
    · rw [keyRows_at] at h1
      obtain ⟨p, _, e0⟩ := Option.map_eq_some_iff.1 h1
      rw [← e0]
  have t1 := Turned.sees _ hL
  have hes : (mapEs c n g).map (·.map (AV.see (seeAt (seesR g (rowsAt 6000 (keyRows c n)))) fun _ _ => none)) = transE c := by
    apply List.ext_getElem?
    intro q
    unfold transE
    rw [hn, List.getElem?_map, mapEs_at, List.getElem?_map]
    cases hq : (keysTo c n)[q]? with
    | none => rfl
    | some p =>
      have hs : seeAt (seesR g (rowsAt 6000 (keyRows c n))) (q + 6000) (g (q + 6000)) = some (.seq 1 ((rowTo c n p).map natAV)) := by
        rw [seeAt_rows, if_pos ⟨by omega, rfl⟩, show q + 6000 - 6000 = q by omega, keyRows_at, hq]
        rfl
      simp only [Option.map_some, List.map_cons, List.map_nil, AV.see, AV.see.seeL, hs, Option.getD_some]
  have hlow : ∀ r v, r < 6000 → seeAt (seesR g (rowsAt 6000 (keyRows c n))) r v = none := fun r v h => by
    rw [seeAt_rows, if_neg fun e => by omega]
  generalize hG : seeAt (seesR g (rowsAt 6000 (keyRows c n))) = G at *
  have t2 : Turned (seenSt (head (FA c F g) (RA c n g) g e) (seesR g (rowsAt 6000 (keyRows c n)))) (head (FA c F g) [(1, ⟨5, [chAV c], 26, false⟩), (27, boxA c g), (25, ⟨0, transE c, 92, false⟩)] g _) := Turned.head (s := seenSt (head (FA c F g) (RA c n g) g e) (seesR g (rowsAt 6000 (keyRows c n)))) (by
      simp only [HoldF, FA, seenSt, head, headF, AV.see, treeAV, if_true, Nat.reduceEqDiff, if_false, and_self, reduceCtorEq]) (by
      refine ⟨?_, ?_, ?_, trivial⟩
      · simp only [seenSt, hG, head, RA, headR, if_true, Option.map_some, Row.see, List.map_cons, List.map_nil, ch_see, Bool.false_eq_true, if_false]
      · simp only [seenSt, hG, head, RA, headR, if_true, Option.map_some, Nat.reduceEqDiff, if_false]
        rw [boxA_see _ _ fun _ => rfl]
      · simp only [seenSt, hG, head, RA, headR, if_true, Option.map_some, Nat.reduceEqDiff, if_false, Row.see, Bool.false_eq_true, hes])
  have hesc : (seenSt (head (FA c F g) (RA c n g) g e) (seesR g (rowsAt 6000 (keyRows c n)))).esc 27 = false := by
    show (e 27 || _) = false
    rw [he, Bool.false_or, List.any_eq_false]
    intro p hp
    obtain ⟨x, hx, rfl⟩ := List.mem_map.1 hp
    obtain ⟨q, _, h2⟩ := rowsAt_mem hx
    simp
    omega
  have t3 := t1.trans t2
  generalize (seenSt (head (FA c F g) (RA c n g) g e) (seesR g (rowsAt 6000 (keyRows c n)))).esc = e2 at t3 hesc
  have t4 := t3.trans (Turned.mapSee 25 ⟨0, transE c, 92, false⟩ (by simp [head, headR]) rfl (by
    rw [List.all_eq_true]
    intro x hx
    unfold transE at hx
    obtain ⟨p, _, rfl⟩ := List.mem_map.1 hx
    rfl))
  refine ⟨e2, hesc, t4.trans (Turned.head ?_ ?_)⟩
  · simp only [HoldF, FA, mapSt, head, headF, AV.see, treeAV, if_true, Nat.reduceEqDiff, if_false, and_self, reduceCtorEq]
  · refine ⟨?_, ?_, trivial⟩
    · simp only [mapSt, head, headR, if_true, Option.map_some, Nat.reduceEqDiff, if_false, Row.see, List.map_cons, List.map_nil, ch_see, Bool.false_eq_true]
    · simp only [mapSt, head, headR, if_true, Option.map_some, Nat.reduceEqDiff, if_false, Row.see, boxA, boxF, List.map_cons, List.map_nil, AV.see, treeAV, Bool.false_eq_true, and_self, Option.getD_some]
end Go.Proofs.YthffdneigmbgfaaGreatDoor
set_option linter.unusedSimpArgs false
namespace Go.Proofs.YthffdneigmbgfaaGreatDoor
open Go.RowKit
set_option maxRecDepth 100000
set_option maxHeartbeats 4000000
theorem treeAV_plain (c : ChD) : (treeAV c).plain = true := rfl
theorem zN_map (l : List Nat) : l.map natAV = (zL l).map intAV := by simp [natAV, zL]
theorem mapEs_zero (c : ChD) (vs : Nat → Nat) : mapEs c 0 vs = [] := rfl
theorem keyRows_zero (c : ChD) : keyRows c 0 = [] := rfl
theorem mapEs_congr {c : ChD} {j : Nat} {g g' : Nat → Nat} (h : ∀ k, g (k + 6000) = g' (k + 6000)) : mapEs c j g = mapEs c j g' := by
  apply List.ext_getElem?
  intro q
  rw [mapEs_at, mapEs_at, h]
theorem round_new {c : ChD} {j : Nat} {s : St} {Q : St → Prop} (hk : keysTo c (j + 1) = keysTo c j ++ [keyAt c j]) (hno : keyAt c j ∉ keysTo c j) (hF : HoldF s (FA c (j + 1) s.vs)) (hR : HoldR s (RN c j s.vs)) (he : s.esc 27 = false)
    (hQ : ∀ g e, e 27 = false → Q (head (FA c (j + 1) g) (RA c (j + 1) g) g e)) : ∃ s2, Turned s s2 ∧ Q s2 := by
  obtain ⟨g', e', h1, h2⟩ := new_key hk hno (j + 1) (g := s.vs) (e := s.esc) he
  exact ⟨_, (Turned.head hF hR).trans h2, hQ g' e' h1⟩
theorem FA_hold (c : ChD) (F : Nat) (g : Nat → Nat) (R : List (Nat × Row)) (e : Nat → Bool) : HoldF (head (FA c F g) R g e) (FA c F g) := by
  simp only [HoldF, FA, head, headF, if_true, Nat.reduceEqDiff, if_false, and_self, reduceCtorEq]
theorem RA_hold (c : ChD) (j : Nat) (g : Nat → Nat) (F : List (Nat × AV)) (e : Nat → Bool) : HoldR (head F (RA c j g) g e) (RA c j g) := by
  refine ⟨?_, ?_, ?_, holdR_rowsAt fun q r hq => ?_⟩
  · simp only [head, RA, headR, if_true]
  · simp only [head, RA, headR, if_true, Nat.reduceEqDiff, if_false]
  · simp only [head, RA, headR, if_true, Nat.reduceEqDiff, if_false]
  · simp only [head, RA, headR]
    rw [if_neg (by omega), if_neg (by omega), if_neg (by omega), RA_key, hq]
theorem table_con (env : Env) (a1 a8 : Addr) (he : ChEnv env a1 a8) (hT : ∀ W, env.inv W → TabAt W) (c : ChD) (hch : chk c = (0, -1)) (hcf : few_ch c) : Con Tryz.prog env 59 [.agg (chAV c)] (.tuple [tabAV c, .lit .nilIface]) := by
  have h0 : (chk c).1 = 0 := by rw [hch]
  have h := full_of h0
  have hs := small_of h0
  have hlen := h.few
  have htr := h.ftr
  have f0 := tnew_con env a1 a8 he hT c h.toRight (chkAV_nil hch) hcf
  have f1 := pCopy_con env c hs
  have f2 := events_con env c (by omega)
  refine con_of_body Tryz.func59 rfl Tryz.call59 (by rw [Tryz.ntmps59]; simp) ?_
  rw [Tryz.ntmps59, Tryz.results59]
  have F := chAV.eq_1
  repeat (first | refine st ?_ | refine cC f0 ?_ | refine cC f1 ?_ | refine cC f2 ?_)
  refine awp_seesR [(24, ⟨1, (evL c).map strAV, 9, true⟩)] ?_ ?_
  · (simp only [go_sem, F])
  refine awp_loopH (D := Nat) (fun j vs => FA c j vs) (fun j vs => RA c j vs) (fun j _ esc => j ≤ c.trans.length ∧ esc 27 = false) (fun j => c.trans.length - j) 0 ?_ ?_ ?_ ?_
  · exact ⟨Nat.zero_le _, rfl⟩
  · have F := And.intro FA.eq_1 <| treeAV.eq_1
    (simp only [go_sem, seenSt, seesR, seeAt, Row.see, AV.see, AV.see.seeL, Option.getD_none, F])
  · have F := And.intro RA.eq_1 <| And.intro boxA.eq_1 <| And.intro treeAV.eq_1 <| And.intro @mapEs_zero <| And.intro @keyRows_zero <| chAV.eq_1
    (simp only [go_sem, seenSt, seesR, seeAt, Row.see, AV.see, AV.see.seeL, Option.getD_none, rowsAt, F])
  try clear f0 f1 f2
  rintro j ws esc ⟨hj, e0⟩
  by_cases hlt : j < c.trans.length
  · obtain ⟨t, ht⟩ : ∃ t, c.trans[j]? = some t := ⟨c.trans[j], List.getElem?_eq_getElem hlt⟩
    have g1 := nlt hlt
    have g2 := wrap_succ hlt (by omega)
    have fE := (event_con env c (by omega) .any nilS t.event).lend rfl
    have hka : keyAt c j = (t.src, evI c t.event) := by unfold keyAt; rw [ht]
    have hm := mfind_map c j ws t.src (evI c t.event)
    have hml := mapEs_len c j ws
    generalize evI c t.event = e at *
    refine awp_late ?_
    cases hq : idxP (t.src, e) (keysTo c j) 0 with
    | none =>
      rw [hq] at hm
      have hno : keyAt c j ∉ keysTo c j := by rw [hka]; exact idxP_none hq
      have hk : keysTo c (j + 1) = keysTo c j ++ [keyAt c j] := by
        show (if keyAt c j ∈ keysTo c j then _ else _) = _
        rw [if_neg hno]
      have hs2 : ∀ x y : List AV, (mapEs c j ws ++ [x]).set (keysTo c j).length y = mapEs c j ws ++ [y] := fun x y => by rw [← hml]; simp
      have ha2 : ∀ x : List AV, (mapEs c j ws ++ [x])[(keysTo c j).length]? = some x := fun x => by rw [← hml]; simp
      have F := And.intro FA.eq_1 <| And.intro RA.eq_1 <| And.intro boxA.eq_1 <| And.intro chAV.eq_1 <| And.intro trAV.eq_1 <| And.intro g1 <| And.intro g2 <| And.intro ht <| And.intro @treeAV_plain <| And.intro hm <| And.intro hml <| And.intro hs2 <| And.intro ha2 <| e0
      repeat refine st ?_
      refine oL rfl (fE) (by simp only [go_sem, F]; exact iR) (by simp only [go_sem, F]; exact ⟨rfl, rfl⟩) ?_
      repeat refine st ?_
      refine round_new hk hno ?_ ⟨?_, ?_, ?_, ?_, holdR_rowsAt fun q r hr => ?_⟩ ?_ fun g e he => ⟨j + 1, ⟨hlt, he⟩, ?_, ?_, by omega⟩
      · have F := And.intro FA.eq_1 <| And.intro RA.eq_1 <| And.intro chAV.eq_1 <| g2
        (simp only [go_sem, F])
      · (simp only [go_sem, FA, RA, chAV, g2])
      · have F := And.intro RA.eq_1 <| And.intro RN.eq_1 <| And.intro boxA.eq_1 <| chAV.eq_1
        (simp only [go_sem, F])
      · have F := And.intro RA.eq_1 <| And.intro RN.eq_1 <| And.intro boxA.eq_1 <| And.intro chAV.eq_1 <| hka
        (simp only [go_sem, F])
        exact congrArg (fun es => (⟨0, es ++ _, _, false⟩ : Row)) (mapEs_congr fun k => by simp only [go_sem])
      · have F := And.intro RA.eq_1 <| RN.eq_1
        (simp only [go_sem, F])
      · have hh := RA_key c j q
        rw [hr] at hh
        have F := And.intro RA.eq_1 <| hh
        (simp only [go_sem, F])
      · have F := And.intro RA.eq_1 <| e0
        (simp only [go_sem, F])
      · exact FA_hold c (j + 1) g _ e
      · exact RA_hold c (j + 1) g _ e
    | some q =>
      rw [hq] at hm
      have hqk := (idxP_some hq).2
      rw [Nat.sub_zero] at hqk
      have hin : keyAt c j ∈ keysTo c j := by rw [hka]; exact List.mem_of_getElem? hqk
      have hk : keysTo c (j + 1) = keysTo c j := by
        show (if keyAt c j ∈ keysTo c j then _ else _) = _
        rw [if_pos hin]
      have hat : (mapEs c j ws)[q]? = some [.agg [I t.src, I e], .row (q + 6000) (ws (q + 6000))] := by rw [mapEs_at, hqk]; rfl
      have hsame : (mapEs c j ws).set q [.agg [I t.src, I e], .row (q + 6000) (ws (q + 6000))] = mapEs c j ws := mapEs_same (p := (t.src, e)) hqk
      have hkr := RA_key c j q
      rw [keyRows_at, hqk] at hkr
      simp only [Option.map_some] at hkr
      have hrl := row_len c j (t.src, e)
      have hf : Fits ((rowTo c j (t.src, e)).length + 1) 8 := fits_small (by omega) (by omega)
      have F := And.intro FA.eq_1 <| And.intro RA.eq_1 <| And.intro boxA.eq_1 <| And.intro chAV.eq_1 <| And.intro trAV.eq_1 <| And.intro g1 <| And.intro g2 <| And.intro ht <| And.intro @treeAV_plain <| And.intro hm <| And.intro hat <| And.intro hsame <| And.intro hkr <| And.intro hf <| e0
      repeat refine st ?_
      refine oL rfl (fE) (by simp only [go_sem, F]; exact iR) (by simp only [go_sem, F]; exact ⟨rfl, rfl⟩) ?_
      repeat refine st ?_
      refine ⟨_, Turned.refl _, j + 1, ⟨hlt, ?_⟩, ?_, ⟨?_, ?_, ?_, holdR_rowsAt fun k r hr => ?_⟩, by omega⟩
      · (simp only [go_sem, F])
      · have F := And.intro FA.eq_1 <| And.intro RA.eq_1 <| And.intro chAV.eq_1 <| g2
        (simp only [go_sem, F])
      · have F := And.intro RA.eq_1 <| And.intro boxA.eq_1 <| chAV.eq_1
        (simp only [go_sem, F])
      · have F := And.intro RA.eq_1 <| And.intro boxA.eq_1 <| chAV.eq_1
        (simp only [go_sem, F])
      · have F := And.intro RA.eq_1 <| And.intro boxA.eq_1 <| And.intro chAV.eq_1 <| hsame
        (simp only [go_sem, F])
        exact congrArg (fun es => (⟨0, es, _, false⟩ : Row)) (mapEs_keep (p := (t.src, e)) hk hqk (fun k hne => by rw [upd_ne _ _ _ (by omega), upd_ne _ _ _ (by omega), upd_ne _ _ _ (by omega), upd_ne _ _ _ (by omega)]) (upd_same ..))
      · rw [keyRows_keep hk hka (keys_nodup c j) hqk k] at hr
        by_cases ek : k = q
        · subst ek
          rw [if_pos rfl] at hr
          cases hr
          have F := And.intro RA.eq_1 <| And.intro boxA.eq_1 <| chAV.eq_1
          (simp only [go_sem, F])
        · rw [if_neg ek] at hr
          have hh := RA_key c j k
          rw [hr] at hh
          have hne : ¬ (k + 6000 = q + 6000) := by omega
          have F := And.intro RA.eq_1 <| And.intro boxA.eq_1 <| And.intro chAV.eq_1 <| And.intro hh <| And.intro hne <| ek
          (simp only [go_sem, F])
  obtain rfl : j = c.trans.length := by omega
  have g1 : ¬ (c.trans.length : Int) < (c.trans.length : Int) := by omega
  obtain ⟨e', h27, htu⟩ := frozen_map (c := c) c.trans.length (g := ws) e0
  refine awp_soon htu ?_
  have F := And.intro FA.eq_1 <| And.intro boxF.eq_1 <| And.intro chAV.eq_1 <| And.intro g1 <| h27
  repeat refine st ?_
  refine awp_nilcell 27 9100 0 8 ⟨9, [[Sg c.name, I c.initial, varsAV c.vars, stsAV c.states, trsAV c.trans, treeAV c, .seq 1 ((evL c).map strAV), .fmap (transE c), nilS]], 95, false⟩ [Sg c.name, I c.initial, varsAV c.vars, stsAV c.states, trsAV c.trans, treeAV c, .seq 1 ((evL c).map strAV), .fmap (transE c), nilS] 32 1 (by decide) (by decide) (Nat.succ_ne_zero 8) rfl rfl rfl (by simp only [go_sem, F]; exact iR) (by simp only [go_sem, F]; exact iR) ?_
  refine awp_loopH (D := Nat) (fun i vs => [(2, .lit (.pointer none)), (3, .lit .nilIface), (4, treeAV c), (6, .loc 27 (vs 27) 0 0), (62, stsAV c.states), (63, I c.states.length), (64, I i)])
    (fun i vs => [(27, ⟨9, [[Sg c.name, I c.initial, varsAV c.vars, stsAV c.states, trsAV c.trans, treeAV c, .seq 1 ((evL c).map strAV), .fmap (transE c), .row 9100 (vs 9100)]], 95, false⟩), (9100, ⟨1, begE c i, 32, true⟩)])
    (fun i _ esc => i ≤ c.states.length ∧ esc 27 = false ∧ esc 9100 = false) (fun i => c.states.length - i) 0 ?_ ?_ ?_ ?_
  · refine ⟨Nat.zero_le _, ?_, ?_⟩ <;> simp only [go_sem, h27]
  · (simp only [go_sem, F])
  · (simp only [go_sem, F])
    try rfl
  try clear g1 e0 h27 htu hj hlt
  rintro i ws esc ⟨hi, e0, e1⟩
  by_cases hlt : i < c.states.length
  · have g1 := nlt hlt
    have g2 := wrap_succ hlt (by omega)
    have f3 := begins_con env c h 40 i hlt (by omega)
    have hbl := bg_len h hlt
    have f4 : Con Tryz.prog env 102 [treeAV c, .seq 1 ((bgL c i).map natAV)] (.own 3 1 ((sbL c i).map natAV)) := by
      rw [zN_map]
      exact tsort_con env c h.toRight (zL (bgL c i)) (by simp [zL]; omega)
    have hbe : (begE c i).length = i := by simp [begE]
    have hbs : begE c (i + 1) = begE c i ++ [[.seq 1 ((sbL c i).map natAV)]] := by unfold begE; rw [List.range_succ, List.map_append]; rfl
    have hf : Fits (i + 1) 24 := fits_small (by omega) (by omega)
    have F := And.intro g1 <| And.intro g2 <| And.intro hbe <| And.intro hf <| And.intro e0 <| And.intro e1 <| treeAV.eq_1
    repeat (first | refine st ?_ | refine cC f3 ?_ | refine cC f4 ?_)
    refine ⟨i + 1, ⟨hlt, ?_, ?_⟩, ?_, ?_, by omega⟩
    · simp only [go_sem, e0]
    · simp only [go_sem, e1]
    · (simp only [go_sem, F])
    · have F := And.intro hbs <| treeAV.eq_1
      (simp only [go_sem, F])
  obtain rfl : i = c.states.length := by omega
  have g1 : ¬ (c.states.length : Int) < (c.states.length : Int) := by omega
  have F := And.intro g1 <| And.intro e0 <| e1
  repeat refine st ?_
  refine awp_seesR [(9100, ⟨1, begE c c.states.length, 32, true⟩)] ?_ ?_
  · (simp only [go_sem, F])
  refine awp_head [(2, .loc 27 (ws 27) 0 0), (3, .lit .nilIface)] [(27, ⟨9, [tabCells c], 95, false⟩)] ?_ ?_ ?_
  · (simp only [go_sem, seenSt, seesR, seeAt, Row.see, AV.see, AV.see.seeL, Option.getD_none])
  · have F := And.intro tabCells.eq_1 <| treeAV.eq_1
    (simp only [go_sem, seenSt, seesR, seeAt, Row.see, AV.see, AV.see.seeL, Option.getD_none, F])
  have F := And.intro tabCells.eq_1 <| @treeAV_plain
  (refine awp_ret ?_; show (resRd _ _ _).run _ = some _; simp only [go_sem, seenSt, seesR, F])
  rfl
end Go.Proofs.YthffdneigmbgfaaGreatDoor
