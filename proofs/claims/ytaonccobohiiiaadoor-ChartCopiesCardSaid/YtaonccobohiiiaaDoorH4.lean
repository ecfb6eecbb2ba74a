/- Contracts of kids, of numbers among numbers, of the state of a name: by the walk without memory. -/
import Derived.Test.YtaonccobohiiiaaDoorH2
import Derived.Test.YtaonccobohiiiaaDoorEv
import Derived.Test.YtaonccobohiiiaaDoorSt
import Derived.Test.YtaonccobohiiiaaDoorHS
set_option linter.unusedSimpArgs false
namespace Go.Proofs.YtaonccobohiiiaaDoor
open Go.RowKit
set_option maxRecDepth 100000
set_option maxHeartbeats 1000000

def natAV (k : Nat) : List AV := [I k]
abbrev nsAV (l : List Nat) : AV := .seq 1 (l.map natAV)
def idxFrom : List Nat → Int → Nat → Int
  | [], _, _ => -1
  | x :: l, v, k => if (x : Int) = v then k else idxFrom l v (k + 1)
def idxI (l : List Nat) (v : Int) : Int := idxFrom l v 0
theorem idx_step {l : List Nat} {v : Int} {k x : Nat} (h : l[k]? = some x) (hn : idxI l v = idxFrom (l.drop k) v k) : ((x : Int) = v → idxI l v = k) ∧ ((x : Int) ≠ v → idxI l v = idxFrom (l.drop (k + 1)) v (k + 1)) := by
  have hk : k < l.length := (List.getElem?_eq_some_iff.1 h).1
  have he : l.drop k = x :: l.drop (k + 1) := by
    rw [List.drop_eq_getElem_cons hk]
    congr 1
    rw [List.getElem?_eq_getElem hk] at h
    exact Option.some.inj h
  rw [he] at hn
  simp only [idxFrom] at hn
  exact ⟨fun e => by rw [hn, if_pos e], fun e => by rw [hn, if_neg e]⟩
theorem idx_end {l : List Nat} {v : Int} {k : Nat} (h : l.length ≤ k) (hn : idxI l v = idxFrom (l.drop k) v k) : idxI l v = -1 := by
  rw [hn, List.drop_eq_nil_of_le h]
  rfl
theorem idx_in (v : Int) : ∀ (l : List Nat) (k : Nat), decide (0 ≤ idxFrom l v k) = inL l v
  | [], k => rfl
  | x :: l, k => by
    have ih := idx_in v l (k + 1)
    have e0 : inL (x :: l) v = (((x : Int) == v) || inL l v) := rfl
    rw [e0, ← ih]
    by_cases e : (x : Int) = v
    · have e1 : idxFrom (x :: l) v k = k := if_pos e
      rw [Bool.eq_iff_iff]
      simp [e1, e]
    · have e1 : idxFrom (x :: l) v k = idxFrom l v (k + 1) := if_neg e
      rw [Bool.eq_iff_iff]
      simp [e1, e]
theorem index_con (env : Env) (l : List Nat) (v : Int) (hl : l.length ≤ 1000000) : Con Tryd.prog env 79 [nsAV l, I v] (I (idxI l v)) := by
  refine con_of_body Tryd.func79 rfl Tryd.call79 (by rw [Tryd.ntmps79]; simp) ?_
  rw [Tryd.ntmps79, Tryd.results79]
  repeat refine st0 ?_
  refine awp_loopH (D := Nat) (fun k _ => [(0, nsAV l), (1, I v), (7, I l.length), (8, I k)]) (fun _ _ => []) (fun k _ _ => k ≤ l.length ∧ idxI l v = idxFrom (l.drop k) v k) (fun k => l.length - k) 0 ?_ ?_ ?_ ?_
  · exact ⟨Nat.zero_le _, rfl⟩
  · (simp only [go_sem])
  · (simp only [go_sem])
  rintro k ws esc ⟨hk, hi⟩
  by_cases hlt : k < l.length
  · obtain ⟨x, hx, _⟩ := some_at hlt
    obtain ⟨yes, no⟩ := idx_step hx hi
    have k1 := nlt hlt
    have k2 := wrap_succ hlt (by omega)
    by_cases e : (x : Int) = v
    · rw [yes e]
      have k3 : (v == (x : Int)) = true := by simp [e]
      have F := And.intro k1 <| And.intro k2 <| And.intro k3 <| And.intro hx <| natAV.eq_1
      repeat refine st ?_
      exact aR
    · have k3 : (v == (x : Int)) = false := by simpa using fun h => e h.symm
      have F := And.intro k1 <| And.intro k2 <| And.intro k3 <| And.intro hx <| natAV.eq_1
      repeat refine st ?_
      refine ⟨k + 1, ⟨hlt, no e⟩, ?_, ?_, ?_⟩
      · (simp only [go_sem, F])
      · (simp only [go_sem, F])
      · omega
  · have k1 : ¬ (k : Int) < (l.length : Int) := by omega
    rw [idx_end (by omega) hi]
    have F := k1
    repeat refine st ?_
    exact aR
theorem contains_con (env : Env) (l : List Nat) (v : Int) (hl : l.length ≤ 1000000) : Con Tryd.prog env 59 [nsAV l, I v] (B (inL l v)) := by
  have h := idx_in v l 0
  refine con_of_body Tryd.func59 rfl Tryd.call59 (by rw [Tryd.ntmps59]; simp) ?_
  rw [Tryd.ntmps59, Tryd.results59]
  repeat (first | refine st0 ?_ | refine cC0 (index_con env l v hl) ?_)
  (refine awp_ret ?_; show (resRd _ _ _).run _ = some _; simp only [go_sem])
  exact congrArg B h
/-! Kids -/
theorem isKid_at {c : ChD} {k : Nat} {s : StD} (hs : c.states[k]? = some s) (i : Int) (real : Bool) : isKid c i real k = ((s.parent == i) && (!real || !memyB s)) := by unfold isKid; rw [hs]
theorem kids_more {c : ChD} {i : Int} {real : Bool} {k : Nat} (h : isKid c i real k = true) : (kidsTo c i real (k + 1)).map natAV = (kidsTo c i real k).map natAV ++ [[I k]] := by
  rw [kidsTo_succ, h, if_pos rfl, List.map_append]
  rfl
theorem kids_same {c : ChD} {i : Int} {real : Bool} {k : Nat} (h : isKid c i real k = false) : (kidsTo c i real (k + 1)).map natAV = (kidsTo c i real k).map natAV := by
  rw [kidsTo_succ, h]
  simp
theorem pReal_con (env : Env) (c : ChD) (i : Int) (hc : c.states.length ≤ 1000000) : Con Tryd.prog env 58 [.agg (chAV c), I i] (.own 3 1 ((kidsL c i true).map natAV)) := by
  refine con_of_body Tryd.func58 rfl Tryd.call58 (by rw [Tryd.ntmps58]; simp) ?_
  rw [Tryd.ntmps58, Tryd.results58]
  have F := chAV.eq_1
  repeat refine st ?_
  refine awp_nilrow 5 5 3 1 ?_
  refine awp_loopH (D := Nat) (fun k vs => [(1, I i), (5, .row 5 (vs 5)), (9, stsAV c.states), (10, I c.states.length), (11, I k)]) (fun k _ => [(5, ⟨1, (kidsTo c i true k).map natAV, 3, true⟩)]) (fun k _ esc => k ≤ c.states.length ∧ esc 5 = false) (fun k => c.states.length - k) 0 ?_ ?_ ?_ ?_
  · exact ⟨Nat.zero_le _, rfl⟩
  · (simp only [go_sem, F])
  · (simp only [go_sem, F])
    simp [kidsTo]
  rintro k ws esc ⟨hk, he⟩
  by_cases hlt : k < c.states.length
  · obtain ⟨s, hs, _⟩ := some_at hlt
    have k1 := nlt hlt
    have k2 := wrap_succ hlt (by omega)
    have hkid := isKid_at hs i true
    have hlen := kidsTo_len c i true k
    have hf : Fits ((kidsTo c i true k).length + 1) 8 := ⟨by omega, by omega⟩
    cases h1 : (s.parent == i) with
    | false =>
      have hsame := kids_same (show isKid c i true k = false by rw [hkid, h1]; rfl)
      have F := And.intro k1 <| And.intro k2 <| And.intro hs <| And.intro stAV.eq_1 <| h1
      repeat (first | refine st ?_ | refine cC (pHistory_con env s) ?_)
      refine ⟨k + 1, ⟨hlt, by simp only [go_sem, he]⟩, ?_, ?_, ?_⟩
      · (simp only [go_sem, F])
      · have F := And.intro k1 <| And.intro k2 <| And.intro hs <| And.intro stAV.eq_1 <| And.intro h1 <| hsame
        (simp only [go_sem, F])
      · omega
    | true =>
      cases h2 : memyB s with
      | true =>
        have hsame := kids_same (show isKid c i true k = false by rw [hkid, h1, h2]; rfl)
        have F := And.intro k1 <| And.intro k2 <| And.intro hs <| And.intro stAV.eq_1 <| And.intro h1 <| h2
        repeat (first | refine st ?_ | refine cC (pHistory_con env s) ?_)
        refine ⟨k + 1, ⟨hlt, by simp only [go_sem, he]⟩, ?_, ?_, ?_⟩
        · (simp only [go_sem, F])
        · have F := And.intro k1 <| And.intro k2 <| And.intro hs <| And.intro stAV.eq_1 <| And.intro h1 <| And.intro h2 <| hsame
          (simp only [go_sem, F])
        · omega
      | false =>
        have hmore := kids_more (show isKid c i true k = true by rw [hkid, h1, h2]; rfl)
        have F := And.intro k1 <| And.intro k2 <| And.intro hs <| And.intro stAV.eq_1 <| And.intro h1 <| And.intro h2 <| hf
        repeat (first | refine st ?_ | refine cC (pHistory_con env s) ?_)
        refine ⟨k + 1, ⟨hlt, by simp only [go_sem, he]⟩, ?_, ?_, ?_⟩
        · (simp only [go_sem, F])
        · have F := And.intro k1 <| And.intro k2 <| And.intro hs <| And.intro stAV.eq_1 <| And.intro h1 <| And.intro h2 <| hmore
          (simp only [go_sem, F])
        · omega
  · have k1 : ¬ (k : Int) < (c.states.length : Int) := by omega
    obtain rfl : k = c.states.length := by omega
    have F := And.intro k1 <| he
    repeat refine st ?_
    (refine awp_ret ?_; show (resRd _ _ _).run _ = some _; simp only [go_sem, F])
    rfl
theorem pKids_con (env : Env) (c : ChD) (i : Int) (hc : c.states.length ≤ 1000000) : Con Tryd.prog env 60 [.agg (chAV c), I i] (.own 3 1 ((kidsL c i false).map natAV)) := by
  refine con_of_body Tryd.func60 rfl Tryd.call60 (by rw [Tryd.ntmps60]; simp) ?_
  rw [Tryd.ntmps60, Tryd.results60]
  have F := chAV.eq_1
  repeat refine st ?_
  refine awp_nilrow 5 5 3 1 ?_
  refine awp_loopH (D := Nat) (fun k vs => [(1, I i), (5, .row 5 (vs 5)), (9, stsAV c.states), (10, I c.states.length), (11, I k)]) (fun k _ => [(5, ⟨1, (kidsTo c i false k).map natAV, 3, true⟩)]) (fun k _ esc => k ≤ c.states.length ∧ esc 5 = false) (fun k => c.states.length - k) 0 ?_ ?_ ?_ ?_
  · exact ⟨Nat.zero_le _, rfl⟩
  · (simp only [go_sem, F])
  · (simp only [go_sem, F])
    simp [kidsTo]
  rintro k ws esc ⟨hk, he⟩
  by_cases hlt : k < c.states.length
  · obtain ⟨s, hs, _⟩ := some_at hlt
    have k1 := nlt hlt
    have k2 := wrap_succ hlt (by omega)
    have hkid := isKid_at hs i false
    have hlen := kidsTo_len c i false k
    have hf : Fits ((kidsTo c i false k).length + 1) 8 := ⟨by omega, by omega⟩
    cases h1 : (s.parent == i) with
    | false =>
      have hsame := kids_same (show isKid c i false k = false by rw [hkid, h1]; rfl)
      have F := And.intro k1 <| And.intro k2 <| And.intro hs <| And.intro stAV.eq_1 <| h1
      repeat refine st ?_
      refine ⟨k + 1, ⟨hlt, by simp only [go_sem, he]⟩, ?_, ?_, ?_⟩
      · (simp only [go_sem, F])
      · have F := And.intro k1 <| And.intro k2 <| And.intro hs <| And.intro stAV.eq_1 <| And.intro h1 <| hsame
        (simp only [go_sem, F])
      · omega
    | true =>
      have hmore := kids_more (show isKid c i false k = true by rw [hkid, h1]; rfl)
      have F := And.intro k1 <| And.intro k2 <| And.intro hs <| And.intro stAV.eq_1 <| And.intro h1 <| hf
      repeat refine st ?_
      refine ⟨k + 1, ⟨hlt, by simp only [go_sem, he]⟩, ?_, ?_, ?_⟩
      · (simp only [go_sem, F])
      · have F := And.intro k1 <| And.intro k2 <| And.intro hs <| And.intro stAV.eq_1 <| And.intro h1 <| hmore
        (simp only [go_sem, F])
      · omega
  · have k1 : ¬ (k : Int) < (c.states.length : Int) := by omega
    obtain rfl : k = c.states.length := by omega
    have F := And.intro k1 <| he
    repeat refine st ?_
    (refine awp_ret ?_; show (resRd _ _ _).run _ = some _; simp only [go_sem, F])
    rfl
/-! The state of a name -/
theorem pFind_con (env : Env) (c : ChD) (name : List UInt8) (hc : c.states.length ≤ 1000000) : Con Tryd.prog env 18 [.agg (chAV c), Sg name] (I (findI c name)) := by
  refine con_of_body Tryd.func18 rfl Tryd.call18 (by rw [Tryd.ntmps18]; simp) ?_
  rw [Tryd.ntmps18, Tryd.results18]
  have F := chAV.eq_1
  repeat refine st ?_
  refine awp_loopH (D := Nat) (fun k _ => [(1, Sg name), (8, stsAV c.states), (9, I c.states.length), (10, I k)]) (fun _ _ => []) (fun k _ _ => k ≤ c.states.length ∧ findTo c name k = -1) (fun k => c.states.length - k) 0 ?_ ?_ ?_ ?_
  · exact ⟨Nat.zero_le _, rfl⟩
  · (simp only [go_sem, F])
  · (simp only [go_sem, F])
  rintro k ws esc ⟨hk, hf⟩
  by_cases hlt : k < c.states.length
  · obtain ⟨s, hs, _⟩ := some_at hlt
    have k1 := nlt hlt
    have k2 := wrap_succ hlt (by omega)
    cases h1 : (s.name == name) with
    | true =>
      rw [findTo_is c name hlt hf s hs (by simpa using h1)]
      have F := And.intro k1 <| And.intro k2 <| And.intro hs <| And.intro stAV.eq_1 <| h1
      repeat refine st ?_
      exact aR
    | false =>
      have F := And.intro k1 <| And.intro k2 <| And.intro hs <| And.intro stAV.eq_1 <| h1
      repeat refine st ?_
      refine ⟨k + 1, ⟨hlt, findTo_step c name hf s hs (by simpa using h1)⟩, ?_, ?_, ?_⟩
      · (simp only [go_sem, F])
      · (simp only [go_sem, F])
      · omega
  · have k1 : ¬ (k : Int) < (c.states.length : Int) := by omega
    obtain rfl : k = c.states.length := by omega
    rw [show findI c name = -1 from hf]
    have F := k1
    repeat refine st ?_
    exact aR
end Go.Proofs.YtaonccobohiiiaaDoor
