/- Contracts of kids, of numbers among numbers, of the state of a name: by the walk without memory. -/
import Derived.Test.YtaggnpieofpphaaDoorH2
import Derived.Test.YtaggnpieofpphaaDoorHS
set_option linter.unusedSimpArgs false
namespace Go.Proofs.YtaggnpieofpphaaDoor
open Go.RowKit
set_option maxRecDepth 100000
set_option maxHeartbeats 1000000
attribute [local go_sem_proc] reduceIte reduceCtorEq Nat.reduceAdd Nat.reduceSub Nat.reduceEqDiff Nat.reduceLT Nat.reduceLeDiff Nat.reduceMul Int.reduceToNat Int.reduceBEq Int.reduceBNe Int.reduceEq Int.reduceLT Int.reduceLE
attribute [local go_sem] resRd resOne resAll HoldF HoldR Takes thenA blockA ev_move ev_assign ev_pick ev_alloc ev_box ev_build ev_buildSlice ev_load ev_store ev_binOp ev_unOp ev_convert ev_iface ev_make ev_slice ev_fieldAddr ev_field ev_indexAddr ev_index ev_extract ev_len ev_append ev_min ev_max evMin evMax gt_tmp gt_int gt_bool gt_str gt_nilS gt_nilP gt_nilI pickRd allocRd buildRd sliceRd loadRd unRd ifaceRd exRd val optRd callRd seen AV.plain adopt fzArgs Rd.run AV.asCells newBox runL Comes' Rd.row Rd.bind Out.app apps Eff.app St.renew St.setRow St.show St.put St.init upd evStore evBin eqFs eqCell evConv evSeq evLen evIndexAddr evFieldAddr evField evIndex bound evSlice evAppend evMake loadOf fillAV fillEs fzParts fz fzCell fzCells shows isConstOp splice wrs wes Value.oneCell' List.getD_cons_zero List.getD_cons_succ List.getD_nil List.length_cons List.length_nil List.map_cons List.map_nil List.nil_append List.cons_append List.all_cons List.all_nil List.getElem?_cons_zero List.getElem?_cons_succ List.set_cons_zero List.set_cons_succ List.take_succ_cons List.take_zero List.drop_succ_cons List.drop_zero List.take_nil List.drop_nil List.replicate_succ List.replicate_zero Bool.and_true Bool.true_and Bool.and_self and_self true_and and_true Nat.zero_add Nat.add_zero Option.some.injEq Nat.zero_lt_succ Bool.not_true Bool.not_false ne_eq not_true_eq_false not_false_eq_true Option.map_some Option.map_none List.toList_toArray head headF headR List.length_map Int.toNat_natCast Int.natCast_nonneg List.getElem?_map decide_true decide_false Bool.false_eq_true if_true if_false Bool.or_self Bool.or_true Bool.true_or Bool.false_or Bool.or_false Bool.and_false Bool.false_and List.flatten_cons List.flatten_nil List.append_nil nat0 or_self or_false false_or or_true true_or and_false false_and List.length_append List.isEmpty_nil bne_self_eq_false beq_self_eq_true fits_small strL_l bytesOf_map wants Int.cast_ofNat_Int gt_iff_lt ge_iff_le
attribute [local go_sem ←] List.map_drop List.map_take

def natAV (k : Nat) : List AV := [I k]
abbrev nsAV (l : List Nat) : AV := .seq 1 (l.map natAV)
def idxFrom : List Nat → Int → Nat → Int
  | [], _, _ => -1
  | x :: l, v, k => if (x : Int) = v then k else idxFrom l v (k + 1)
def idxI (l : List Nat) (v : Int) : Int := idxFrom l v 0
theorem idx_step {l : List Nat} {v : Int} {k x : Nat} (h : l[k]? = some x) (hn : idxI l v = idxFrom (l.drop k) v k) : ((x : Int) = v → idxI l v = k) ∧ ((x : Int) ≠ v → idxI l v = idxFrom (l.drop (k + 1)) v (k + 1)) := by
  have hk : k < l.length := (List.getElem?_eq_some_iff.1 h).1
  have he : l.drop k = x :: l.drop (k + 1) := by
    rw [List.drop_eq_getElem_cons hk]
    congr 1
    rw [List.getElem?_eq_getElem hk] at h
    exact Option.some.inj h
  rw [he] at hn
  simp only [idxFrom] at hn
  exact ⟨fun e => by rw [hn, if_pos e], fun e => by rw [hn, if_neg e]⟩
theorem idx_end {l : List Nat} {v : Int} {k : Nat} (h : l.length ≤ k) (hn : idxI l v = idxFrom (l.drop k) v k) : idxI l v = -1 := by
  rw [hn, List.drop_eq_nil_of_le h]
  rfl
theorem idx_in (v : Int) : ∀ (l : List Nat) (k : Nat), decide (0 ≤ idxFrom l v k) = inL l v
  | [], k => rfl
  | x :: l, k => by
    have ih := idx_in v l (k + 1)
    have e0 : inL (x :: l) v = (((x : Int) == v) || inL l v) := rfl
    rw [e0, ← ih]
    by_cases e : (x : Int) = v
    · have e1 : idxFrom (x :: l) v k = k := if_pos e
      rw [Bool.eq_iff_iff]
      simp [e1, e]
    · have e1 : idxFrom (x :: l) v k = idxFrom l v (k + 1) := if_neg e
      rw [Bool.eq_iff_iff]
      simp [e1, e]
theorem index_con (env : Env) (l : List Nat) (v : Int) (hl : l.length ≤ 1000000) : Con Tryd.prog env 103 [nsAV l, I v] (I (idxI l v)) := by
  refine con_of_body Tryd.func103 rfl Tryd.call103 (by rw [Tryd.ntmps103]; simp) ?_
  rw [Tryd.ntmps103, Tryd.results103]
  repeat (first | refine aops_op' rfl (by simp only [go_sem]; exact ⟨rfl, rfl⟩) ?_ | refine g_run ?_ | refine g_off ?_ | refine aops_nil (d_end ?_) | refine aops_nil ?_ | refine awp_seq ?_ | refine g_text ?_ | refine g_draw Tryd.mixed ?_ | refine awp_block ?_ | refine awp_skip ?_ | (refine awp_exit ?_; simp only [thenA, blockA, ↓reduceIte, Nat.reduceEqDiff, reduceCtorEq]) | refine awp_yes' (by simp only [go_sem]; exact Is.rfl') ?_ | refine awp_no' (by simp only [go_sem]; exact Is.rfl') ?_)
  refine awp_loopH (D := Nat) (fun k _ => [(0, nsAV l), (1, I v), (7, I l.length), (8, I k)]) (fun _ _ => []) (fun k _ _ => k ≤ l.length ∧ idxI l v = idxFrom (l.drop k) v k) (fun k => l.length - k) 0 ?_ ?_ ?_ ?_
  · exact ⟨Nat.zero_le _, rfl⟩
  · (simp only [go_sem])
  · (simp only [go_sem])
  rintro k ws esc ⟨hk, hi⟩
  by_cases hlt : k < l.length
  · obtain ⟨x, hx, _⟩ := some_at hlt
    obtain ⟨yes, no⟩ := idx_step hx hi
    have k1 := nlt hlt
    have k2 := wrap_succ hlt (by omega)
    by_cases e : (x : Int) = v
    · rw [yes e]
      have k3 : (v == (x : Int)) = true := by simp [e]
      repeat (first | refine aops_op' rfl (by simp only [go_sem, k1, k2, k3, hx, natAV]; exact ⟨rfl, rfl⟩) ?_ | refine g_run ?_ | refine g_off ?_ | refine aops_nil (d_end ?_) | refine aops_nil ?_ | refine awp_seq ?_ | refine g_text ?_ | refine g_draw Tryd.mixed ?_ | refine awp_block ?_ | refine awp_skip ?_ | (refine awp_exit ?_; simp only [thenA, blockA, ↓reduceIte, Nat.reduceEqDiff, reduceCtorEq]) | refine awp_yes' (by simp only [go_sem, k1, k2, k3, hx, natAV]; exact Is.rfl') ?_ | refine awp_no' (by simp only [go_sem, k1, k2, k3, hx, natAV]; exact Is.rfl') ?_)
      (refine awp_ret ?_; show (resRd _ _ _).run _ = some _; simp only [go_sem, k1, k2, k3, hx, natAV])
    · have k3 : (v == (x : Int)) = false := by simpa using fun h => e h.symm
      repeat (first | refine aops_op' rfl (by simp only [go_sem, k1, k2, k3, hx, natAV]; exact ⟨rfl, rfl⟩) ?_ | refine g_run ?_ | refine g_off ?_ | refine aops_nil (d_end ?_) | refine aops_nil ?_ | refine awp_seq ?_ | refine g_text ?_ | refine g_draw Tryd.mixed ?_ | refine awp_block ?_ | refine awp_skip ?_ | (refine awp_exit ?_; simp only [thenA, blockA, ↓reduceIte, Nat.reduceEqDiff, reduceCtorEq]) | refine awp_yes' (by simp only [go_sem, k1, k2, k3, hx, natAV]; exact Is.rfl') ?_ | refine awp_no' (by simp only [go_sem, k1, k2, k3, hx, natAV]; exact Is.rfl') ?_)
      refine ⟨k + 1, ⟨hlt, no e⟩, ?_, ?_, ?_⟩
      · (simp only [go_sem, k1, k2, k3, hx, natAV])
      · (simp only [go_sem, k1, k2, k3, hx, natAV])
      · omega
  · have k1 : ¬ (k : Int) < (l.length : Int) := by omega
    rw [idx_end (by omega) hi]
    repeat (first | refine aops_op' rfl (by simp only [go_sem, k1]; exact ⟨rfl, rfl⟩) ?_ | refine g_run ?_ | refine g_off ?_ | refine aops_nil (d_end ?_) | refine aops_nil ?_ | refine awp_seq ?_ | refine g_text ?_ | refine g_draw Tryd.mixed ?_ | refine awp_block ?_ | refine awp_skip ?_ | (refine awp_exit ?_; simp only [thenA, blockA, ↓reduceIte, Nat.reduceEqDiff, reduceCtorEq]) | refine awp_yes' (by simp only [go_sem, k1]; exact Is.rfl') ?_ | refine awp_no' (by simp only [go_sem, k1]; exact Is.rfl') ?_)
    (refine awp_ret ?_; show (resRd _ _ _).run _ = some _; simp only [go_sem, k1])
theorem contains_con (env : Env) (l : List Nat) (v : Int) (hl : l.length ≤ 1000000) : Con Tryd.prog env 90 [nsAV l, I v] (B (inL l v)) := by
  have h := idx_in v l 0
  refine con_of_body Tryd.func90 rfl Tryd.call90 (by rw [Tryd.ntmps90]; simp) ?_
  rw [Tryd.ntmps90, Tryd.results90]
  repeat (first | refine aops_op' rfl (by simp only [go_sem]; exact ⟨rfl, rfl⟩) ?_ | refine g_run ?_ | refine g_off ?_ | refine aops_call' rfl (index_con env l v hl) (by simp only [go_sem]; exact Is.rfl') (by simp only [go_sem]; exact ⟨rfl, rfl⟩) ?_ | refine aops_nil (d_end ?_) | refine aops_nil ?_ | refine awp_seq ?_ | refine g_text ?_ | refine g_draw Tryd.mixed ?_ | refine awp_block ?_ | refine awp_skip ?_ | (refine awp_exit ?_; simp only [thenA, blockA, ↓reduceIte, Nat.reduceEqDiff, reduceCtorEq]) | refine awp_yes' (by simp only [go_sem]; exact Is.rfl') ?_ | refine awp_no' (by simp only [go_sem]; exact Is.rfl') ?_)
  (refine awp_ret ?_; show (resRd _ _ _).run _ = some _; simp only [go_sem])
  exact congrArg B h
theorem rIn_con (env : Env) (l : List Nat) (v : Int) (hl : l.length ≤ 1000000) : Con Tryd.prog env 78 [nsAV l, I v] (B (inL l v)) := by
  rw [← idx_in v l 0, show idxFrom l v 0 = idxI l v from rfl]
  refine con_of_body Tryd.func78 rfl Tryd.call78 (by rw [Tryd.ntmps78]; simp) ?_
  rw [Tryd.ntmps78, Tryd.results78]
  repeat (first | refine aops_op' rfl (by simp only [go_sem]; exact ⟨rfl, rfl⟩) ?_ | refine g_run ?_ | refine g_off ?_ | refine aops_nil (d_end ?_) | refine aops_nil ?_ | refine awp_seq ?_ | refine g_text ?_ | refine g_draw Tryd.mixed ?_ | refine awp_block ?_ | refine awp_skip ?_ | (refine awp_exit ?_; simp only [thenA, blockA, ↓reduceIte, Nat.reduceEqDiff, reduceCtorEq]) | refine awp_yes' (by simp only [go_sem]; exact Is.rfl') ?_ | refine awp_no' (by simp only [go_sem]; exact Is.rfl') ?_)
  refine awp_loopH (D := Nat) (fun k _ => [(0, nsAV l), (1, I v), (5, I k)]) (fun _ _ => []) (fun k _ _ => k ≤ l.length ∧ idxI l v = idxFrom (l.drop k) v k) (fun k => l.length - k) 0 ?_ ?_ ?_ ?_
  · exact ⟨Nat.zero_le _, rfl⟩
  · (simp only [go_sem])
  · (simp only [go_sem])
  rintro k ws esc ⟨hk, hi⟩
  by_cases hlt : k < l.length
  · obtain ⟨x, hx, _⟩ := some_at hlt
    obtain ⟨yes, no⟩ := idx_step hx hi
    have k1 := nlt hlt
    have k2 := wrap_succ hlt (by omega)
    by_cases e : (x : Int) = v
    · rw [yes e, decide_eq_true (Int.natCast_nonneg k)]
      have k3 : ((x : Int) == v) = true := by simp [e]
      repeat (first | refine aops_op' rfl (by simp only [go_sem, k1, k2, k3, hx, natAV]; exact ⟨rfl, rfl⟩) ?_ | refine g_run ?_ | refine g_off ?_ | refine aops_nil (d_end ?_) | refine aops_nil ?_ | refine awp_seq ?_ | refine g_text ?_ | refine g_draw Tryd.mixed ?_ | refine awp_block ?_ | refine awp_skip ?_ | (refine awp_exit ?_; simp only [thenA, blockA, ↓reduceIte, Nat.reduceEqDiff, reduceCtorEq]) | refine awp_yes' (by simp only [go_sem, k1, k2, k3, hx, natAV]; exact Is.rfl') ?_ | refine awp_no' (by simp only [go_sem, k1, k2, k3, hx, natAV]; exact Is.rfl') ?_)
      (refine awp_ret ?_; show (resRd _ _ _).run _ = some _; simp only [go_sem, k1, k2, k3, hx, natAV])
    · have k3 : ((x : Int) == v) = false := by simpa using e
      repeat (first | refine aops_op' rfl (by simp only [go_sem, k1, k2, k3, hx, natAV]; exact ⟨rfl, rfl⟩) ?_ | refine g_run ?_ | refine g_off ?_ | refine aops_nil (d_end ?_) | refine aops_nil ?_ | refine awp_seq ?_ | refine g_text ?_ | refine g_draw Tryd.mixed ?_ | refine awp_block ?_ | refine awp_skip ?_ | (refine awp_exit ?_; simp only [thenA, blockA, ↓reduceIte, Nat.reduceEqDiff, reduceCtorEq]) | refine awp_yes' (by simp only [go_sem, k1, k2, k3, hx, natAV]; exact Is.rfl') ?_ | refine awp_no' (by simp only [go_sem, k1, k2, k3, hx, natAV]; exact Is.rfl') ?_)
      refine ⟨k + 1, ⟨hlt, no e⟩, ?_, ?_, ?_⟩
      · (simp only [go_sem, k1, k2, k3, hx, natAV])
      · (simp only [go_sem, k1, k2, k3, hx, natAV])
      · omega
  · have k1 : ¬ (k : Int) < (l.length : Int) := by omega
    rw [idx_end (by omega) hi]
    repeat (first | refine aops_op' rfl (by simp only [go_sem, k1]; exact ⟨rfl, rfl⟩) ?_ | refine g_run ?_ | refine g_off ?_ | refine aops_nil (d_end ?_) | refine aops_nil ?_ | refine awp_seq ?_ | refine g_text ?_ | refine g_draw Tryd.mixed ?_ | refine awp_block ?_ | refine awp_skip ?_ | (refine awp_exit ?_; simp only [thenA, blockA, ↓reduceIte, Nat.reduceEqDiff, reduceCtorEq]) | refine awp_yes' (by simp only [go_sem, k1]; exact Is.rfl') ?_ | refine awp_no' (by simp only [go_sem, k1]; exact Is.rfl') ?_)
    (refine awp_ret ?_; show (resRd _ _ _).run _ = some _; simp only [go_sem, k1])

/-! Kids -/
theorem isKid_at {c : ChD} {k : Nat} {s : StD} (hs : c.states[k]? = some s) (i : Int) (real : Bool) : isKid c i real k = ((s.parent == i) && (!real || !memyB s)) := by unfold isKid; rw [hs]
theorem kids_more {c : ChD} {i : Int} {real : Bool} {k : Nat} (h : isKid c i real k = true) : (kidsTo c i real (k + 1)).map natAV = (kidsTo c i real k).map natAV ++ [[I k]] := by
  rw [kidsTo_succ, h, if_pos rfl, List.map_append]
  rfl
theorem kids_same {c : ChD} {i : Int} {real : Bool} {k : Nat} (h : isKid c i real k = false) : (kidsTo c i real (k + 1)).map natAV = (kidsTo c i real k).map natAV := by
  rw [kidsTo_succ, h]
  simp
theorem pReal_con (env : Env) (c : ChD) (i : Int) (hc : c.states.length ≤ 1000000) : Con Tryd.prog env 11 [.agg (chAV c), I i] (.own 3 1 ((kidsL c i true).map natAV)) := by
  refine con_of_body Tryd.func11 rfl Tryd.call11 (by rw [Tryd.ntmps11]; simp) ?_
  rw [Tryd.ntmps11, Tryd.results11]
  repeat (first | refine aops_op' rfl (by simp only [go_sem, chAV]; exact ⟨rfl, rfl⟩) ?_ | refine g_run ?_ | refine g_off ?_ | refine aops_nil (d_end ?_) | refine aops_nil ?_ | refine awp_seq ?_ | refine g_text ?_ | refine g_draw Tryd.mixed ?_ | refine awp_block ?_ | refine awp_skip ?_ | (refine awp_exit ?_; simp only [thenA, blockA, ↓reduceIte, Nat.reduceEqDiff, reduceCtorEq]) | refine awp_yes' (by simp only [go_sem, chAV]; exact Is.rfl') ?_ | refine awp_no' (by simp only [go_sem, chAV]; exact Is.rfl') ?_)
  refine awp_nilrow 5 5 3 1 ?_
  refine awp_loopH (D := Nat) (fun k vs => [(1, I i), (5, .row 5 (vs 5)), (9, stsAV c.states), (10, I c.states.length), (11, I k)]) (fun k _ => [(5, ⟨1, (kidsTo c i true k).map natAV, 3, true⟩)]) (fun k _ esc => k ≤ c.states.length ∧ esc 5 = false) (fun k => c.states.length - k) 0 ?_ ?_ ?_ ?_
  · exact ⟨Nat.zero_le _, rfl⟩
  · (simp only [go_sem, chAV])
  · (simp only [go_sem, chAV])
    simp [kidsTo]
  rintro k ws esc ⟨hk, he⟩
  by_cases hlt : k < c.states.length
  · obtain ⟨s, hs, _⟩ := some_at hlt
    have k1 := nlt hlt
    have k2 := wrap_succ hlt (by omega)
    have hkid := isKid_at hs i true
    have hlen := kidsTo_len c i true k
    have hf : Fits ((kidsTo c i true k).length + 1) 8 := ⟨by omega, by omega⟩
    cases h1 : (s.parent == i) with
    | false =>
      have hsame := kids_same (show isKid c i true k = false by rw [hkid, h1]; rfl)
      repeat (first | refine aops_op' rfl (by simp only [go_sem, k1, k2, hs, stAV, h1]; exact ⟨rfl, rfl⟩) ?_ | refine g_run ?_ | refine g_off ?_ | refine aops_call' rfl (pHistory_con env s) (by simp only [go_sem, k1, k2, hs, stAV, h1]; exact Is.rfl') (by simp only [go_sem, k1, k2, hs, stAV, h1]; exact ⟨rfl, rfl⟩) ?_ | refine aops_nil (d_end ?_) | refine aops_nil ?_ | refine awp_seq ?_ | refine g_text ?_ | refine g_draw Tryd.mixed ?_ | refine awp_block ?_ | refine awp_skip ?_ | (refine awp_exit ?_; simp only [thenA, blockA, ↓reduceIte, Nat.reduceEqDiff, reduceCtorEq]) | refine awp_yes' (by simp only [go_sem, k1, k2, hs, stAV, h1]; exact Is.rfl') ?_ | refine awp_no' (by simp only [go_sem, k1, k2, hs, stAV, h1]; exact Is.rfl') ?_)
      refine ⟨k + 1, ⟨hlt, by simp only [go_sem, he]⟩, ?_, ?_, ?_⟩
      · (simp only [go_sem, k1, k2, hs, stAV, h1])
      · (simp only [go_sem, k1, k2, hs, stAV, h1, hsame])
      · omega
    | true =>
      cases h2 : memyB s with
      | true =>
        have hsame := kids_same (show isKid c i true k = false by rw [hkid, h1, h2]; rfl)
        repeat (first | refine aops_op' rfl (by simp only [go_sem, k1, k2, hs, stAV, h1, h2]; exact ⟨rfl, rfl⟩) ?_ | refine g_run ?_ | refine g_off ?_ | refine aops_call' rfl (pHistory_con env s) (by simp only [go_sem, k1, k2, hs, stAV, h1, h2]; exact Is.rfl') (by simp only [go_sem, k1, k2, hs, stAV, h1, h2]; exact ⟨rfl, rfl⟩) ?_ | refine aops_nil (d_end ?_) | refine aops_nil ?_ | refine awp_seq ?_ | refine g_text ?_ | refine g_draw Tryd.mixed ?_ | refine awp_block ?_ | refine awp_skip ?_ | (refine awp_exit ?_; simp only [thenA, blockA, ↓reduceIte, Nat.reduceEqDiff, reduceCtorEq]) | refine awp_yes' (by simp only [go_sem, k1, k2, hs, stAV, h1, h2]; exact Is.rfl') ?_ | refine awp_no' (by simp only [go_sem, k1, k2, hs, stAV, h1, h2]; exact Is.rfl') ?_)
        refine ⟨k + 1, ⟨hlt, by simp only [go_sem, he]⟩, ?_, ?_, ?_⟩
        · (simp only [go_sem, k1, k2, hs, stAV, h1, h2])
        · (simp only [go_sem, k1, k2, hs, stAV, h1, h2, hsame])
        · omega
      | false =>
        have hmore := kids_more (show isKid c i true k = true by rw [hkid, h1, h2]; rfl)
        repeat (first | refine aops_op' rfl (by simp only [go_sem, k1, k2, hs, stAV, h1, h2, hf]; exact ⟨rfl, rfl⟩) ?_ | refine g_run ?_ | refine g_off ?_ | refine aops_call' rfl (pHistory_con env s) (by simp only [go_sem, k1, k2, hs, stAV, h1, h2, hf]; exact Is.rfl') (by simp only [go_sem, k1, k2, hs, stAV, h1, h2, hf]; exact ⟨rfl, rfl⟩) ?_ | refine aops_nil (d_end ?_) | refine aops_nil ?_ | refine awp_seq ?_ | refine g_text ?_ | refine g_draw Tryd.mixed ?_ | refine awp_block ?_ | refine awp_skip ?_ | (refine awp_exit ?_; simp only [thenA, blockA, ↓reduceIte, Nat.reduceEqDiff, reduceCtorEq]) | refine awp_yes' (by simp only [go_sem, k1, k2, hs, stAV, h1, h2, hf]; exact Is.rfl') ?_ | refine awp_no' (by simp only [go_sem, k1, k2, hs, stAV, h1, h2, hf]; exact Is.rfl') ?_)
        refine ⟨k + 1, ⟨hlt, by simp only [go_sem, he]⟩, ?_, ?_, ?_⟩
        · (simp only [go_sem, k1, k2, hs, stAV, h1, h2, hf])
        · (simp only [go_sem, k1, k2, hs, stAV, h1, h2, hmore])
        · omega
  · have k1 : ¬ (k : Int) < (c.states.length : Int) := by omega
    obtain rfl : k = c.states.length := by omega
    repeat (first | refine aops_op' rfl (by simp only [go_sem, k1, he]; exact ⟨rfl, rfl⟩) ?_ | refine g_run ?_ | refine g_off ?_ | refine aops_nil (d_end ?_) | refine aops_nil ?_ | refine awp_seq ?_ | refine g_text ?_ | refine g_draw Tryd.mixed ?_ | refine awp_block ?_ | refine awp_skip ?_ | (refine awp_exit ?_; simp only [thenA, blockA, ↓reduceIte, Nat.reduceEqDiff, reduceCtorEq]) | refine awp_yes' (by simp only [go_sem, k1, he]; exact Is.rfl') ?_ | refine awp_no' (by simp only [go_sem, k1, he]; exact Is.rfl') ?_)
    (refine awp_ret ?_; show (resRd _ _ _).run _ = some _; simp only [go_sem, k1, he])
    rfl
theorem pKids_con (env : Env) (c : ChD) (i : Int) (hc : c.states.length ≤ 1000000) : Con Tryd.prog env 91 [.agg (chAV c), I i] (.own 3 1 ((kidsL c i false).map natAV)) := by
  refine con_of_body Tryd.func91 rfl Tryd.call91 (by rw [Tryd.ntmps91]; simp) ?_
  rw [Tryd.ntmps91, Tryd.results91]
  repeat (first | refine aops_op' rfl (by simp only [go_sem, chAV]; exact ⟨rfl, rfl⟩) ?_ | refine g_run ?_ | refine g_off ?_ | refine aops_nil (d_end ?_) | refine aops_nil ?_ | refine awp_seq ?_ | refine g_text ?_ | refine g_draw Tryd.mixed ?_ | refine awp_block ?_ | refine awp_skip ?_ | (refine awp_exit ?_; simp only [thenA, blockA, ↓reduceIte, Nat.reduceEqDiff, reduceCtorEq]) | refine awp_yes' (by simp only [go_sem, chAV]; exact Is.rfl') ?_ | refine awp_no' (by simp only [go_sem, chAV]; exact Is.rfl') ?_)
  refine awp_nilrow 5 5 3 1 ?_
  refine awp_loopH (D := Nat) (fun k vs => [(1, I i), (5, .row 5 (vs 5)), (9, stsAV c.states), (10, I c.states.length), (11, I k)]) (fun k _ => [(5, ⟨1, (kidsTo c i false k).map natAV, 3, true⟩)]) (fun k _ esc => k ≤ c.states.length ∧ esc 5 = false) (fun k => c.states.length - k) 0 ?_ ?_ ?_ ?_
  · exact ⟨Nat.zero_le _, rfl⟩
  · (simp only [go_sem, chAV])
  · (simp only [go_sem, chAV])
    simp [kidsTo]
  rintro k ws esc ⟨hk, he⟩
  by_cases hlt : k < c.states.length
  · obtain ⟨s, hs, _⟩ := some_at hlt
    have k1 := nlt hlt
    have k2 := wrap_succ hlt (by omega)
    have hkid := isKid_at hs i false
    have hlen := kidsTo_len c i false k
    have hf : Fits ((kidsTo c i false k).length + 1) 8 := ⟨by omega, by omega⟩
    cases h1 : (s.parent == i) with
    | false =>
      have hsame := kids_same (show isKid c i false k = false by rw [hkid, h1]; rfl)
      repeat (first | refine aops_op' rfl (by simp only [go_sem, k1, k2, hs, stAV, h1]; exact ⟨rfl, rfl⟩) ?_ | refine g_run ?_ | refine g_off ?_ | refine aops_nil (d_end ?_) | refine aops_nil ?_ | refine awp_seq ?_ | refine g_text ?_ | refine g_draw Tryd.mixed ?_ | refine awp_block ?_ | refine awp_skip ?_ | (refine awp_exit ?_; simp only [thenA, blockA, ↓reduceIte, Nat.reduceEqDiff, reduceCtorEq]) | refine awp_yes' (by simp only [go_sem, k1, k2, hs, stAV, h1]; exact Is.rfl') ?_ | refine awp_no' (by simp only [go_sem, k1, k2, hs, stAV, h1]; exact Is.rfl') ?_)
      refine ⟨k + 1, ⟨hlt, by simp only [go_sem, he]⟩, ?_, ?_, ?_⟩
      · (simp only [go_sem, k1, k2, hs, stAV, h1])
      · (simp only [go_sem, k1, k2, hs, stAV, h1, hsame])
      · omega
    | true =>
      have hmore := kids_more (show isKid c i false k = true by rw [hkid, h1]; rfl)
      repeat (first | refine aops_op' rfl (by simp only [go_sem, k1, k2, hs, stAV, h1, hf]; exact ⟨rfl, rfl⟩) ?_ | refine g_run ?_ | refine g_off ?_ | refine aops_nil (d_end ?_) | refine aops_nil ?_ | refine awp_seq ?_ | refine g_text ?_ | refine g_draw Tryd.mixed ?_ | refine awp_block ?_ | refine awp_skip ?_ | (refine awp_exit ?_; simp only [thenA, blockA, ↓reduceIte, Nat.reduceEqDiff, reduceCtorEq]) | refine awp_yes' (by simp only [go_sem, k1, k2, hs, stAV, h1, hf]; exact Is.rfl') ?_ | refine awp_no' (by simp only [go_sem, k1, k2, hs, stAV, h1, hf]; exact Is.rfl') ?_)
      refine ⟨k + 1, ⟨hlt, by simp only [go_sem, he]⟩, ?_, ?_, ?_⟩
      · (simp only [go_sem, k1, k2, hs, stAV, h1, hf])
      · (simp only [go_sem, k1, k2, hs, stAV, h1, hmore])
      · omega
  · have k1 : ¬ (k : Int) < (c.states.length : Int) := by omega
    obtain rfl : k = c.states.length := by omega
    repeat (first | refine aops_op' rfl (by simp only [go_sem, k1, he]; exact ⟨rfl, rfl⟩) ?_ | refine g_run ?_ | refine g_off ?_ | refine aops_nil (d_end ?_) | refine aops_nil ?_ | refine awp_seq ?_ | refine g_text ?_ | refine g_draw Tryd.mixed ?_ | refine awp_block ?_ | refine awp_skip ?_ | (refine awp_exit ?_; simp only [thenA, blockA, ↓reduceIte, Nat.reduceEqDiff, reduceCtorEq]) | refine awp_yes' (by simp only [go_sem, k1, he]; exact Is.rfl') ?_ | refine awp_no' (by simp only [go_sem, k1, he]; exact Is.rfl') ?_)
    (refine awp_ret ?_; show (resRd _ _ _).run _ = some _; simp only [go_sem, k1, he])
    rfl
theorem rKids_con (env : Env) (c : ChD) (i : Int) (real : Bool) (hc : c.states.length ≤ 1000000) : Con Tryd.prog env 77 [.agg (chAV c), I i, B real] (.own 3 1 ((kidsL c i real).map natAV)) := by
  refine con_of_body Tryd.func77 rfl Tryd.call77 (by rw [Tryd.ntmps77]; simp) ?_
  rw [Tryd.ntmps77, Tryd.results77]
  repeat (first | refine aops_op' rfl (by simp only [go_sem, chAV]; exact ⟨rfl, rfl⟩) ?_ | refine g_run ?_ | refine g_off ?_ | refine aops_nil (d_end ?_) | refine aops_nil ?_ | refine awp_seq ?_ | refine g_text ?_ | refine g_draw Tryd.mixed ?_ | refine awp_block ?_ | refine awp_skip ?_ | (refine awp_exit ?_; simp only [thenA, blockA, ↓reduceIte, Nat.reduceEqDiff, reduceCtorEq]) | refine awp_yes' (by simp only [go_sem, chAV]; exact Is.rfl') ?_ | refine awp_no' (by simp only [go_sem, chAV]; exact Is.rfl') ?_)
  refine awp_loopH (D := Nat) (fun k vs => [(1, I i), (2, B real), (3, .loc 3 (vs 3) 0 0), (7, .row 9 (vs 9)), (8, I k)]) (fun k _ => [(3, ⟨5, [chAV c], 26, false⟩), (9, ⟨1, (kidsTo c i real k).map natAV, 3, true⟩)]) (fun k _ esc => k ≤ c.states.length ∧ esc 9 = false) (fun k => c.states.length - k) 0 ?_ ?_ ?_ ?_
  · exact ⟨Nat.zero_le _, rfl⟩
  · (simp only [go_sem, chAV])
  · (simp only [go_sem, chAV])
    simp [kidsTo]
  rintro k ws esc ⟨hk, he⟩
  by_cases hlt : k < c.states.length
  · obtain ⟨s, hs, _⟩ := some_at hlt
    have k1 := nlt hlt
    have k2 := wrap_succ hlt (by omega)
    have hkid := isKid_at hs i real
    have hlen := kidsTo_len c i real k
    have hf : Fits ((kidsTo c i real k).length + 1) 8 := ⟨by omega, by omega⟩
    cases h1 : (s.parent == i) with
    | false =>
      have hsame := kids_same (show isKid c i real k = false by rw [hkid, h1]; rfl)
      repeat (first | refine aops_op' rfl (by simp only [go_sem, chAV, k1, k2, hs, stAV, h1]; exact ⟨rfl, rfl⟩) ?_ | refine g_run ?_ | refine g_off ?_ | refine aops_call' rfl (rMemory_con env s) (by simp only [go_sem, chAV, k1, k2, hs, stAV, h1]; exact Is.rfl') (by simp only [go_sem, chAV, k1, k2, hs, stAV, h1]; exact ⟨rfl, rfl⟩) ?_ | refine aops_nil (d_end ?_) | refine aops_nil ?_ | refine awp_seq ?_ | refine g_text ?_ | refine g_draw Tryd.mixed ?_ | refine awp_block ?_ | refine awp_skip ?_ | (refine awp_exit ?_; simp only [thenA, blockA, ↓reduceIte, Nat.reduceEqDiff, reduceCtorEq]) | refine awp_yes' (by simp only [go_sem, chAV, k1, k2, hs, stAV, h1]; exact Is.rfl') ?_ | refine awp_no' (by simp only [go_sem, chAV, k1, k2, hs, stAV, h1]; exact Is.rfl') ?_)
      refine ⟨k + 1, ⟨hlt, by simp only [go_sem, he]⟩, ?_, ?_, ?_⟩
      · (simp only [go_sem, chAV, k1, k2, hs, stAV, h1])
      · (simp only [go_sem, chAV, k1, k2, hs, stAV, h1, hsame])
      · omega
    | true =>
      cases real with
      | false =>
        have hmore := kids_more (show isKid c i false k = true by rw [hkid, h1]; rfl)
        repeat (first | refine aops_op' rfl (by simp only [go_sem, chAV, k1, k2, hs, stAV, h1, hf]; exact ⟨rfl, rfl⟩) ?_ | refine g_run ?_ | refine g_off ?_ | refine aops_call' rfl (rMemory_con env s) (by simp only [go_sem, chAV, k1, k2, hs, stAV, h1, hf]; exact Is.rfl') (by simp only [go_sem, chAV, k1, k2, hs, stAV, h1, hf]; exact ⟨rfl, rfl⟩) ?_ | refine aops_nil (d_end ?_) | refine aops_nil ?_ | refine awp_seq ?_ | refine g_text ?_ | refine g_draw Tryd.mixed ?_ | refine awp_block ?_ | refine awp_skip ?_ | (refine awp_exit ?_; simp only [thenA, blockA, ↓reduceIte, Nat.reduceEqDiff, reduceCtorEq]) | refine awp_yes' (by simp only [go_sem, chAV, k1, k2, hs, stAV, h1, hf]; exact Is.rfl') ?_ | refine awp_no' (by simp only [go_sem, chAV, k1, k2, hs, stAV, h1, hf]; exact Is.rfl') ?_)
        refine ⟨k + 1, ⟨hlt, by simp only [go_sem, he]⟩, ?_, ?_, ?_⟩
        · (simp only [go_sem, chAV, k1, k2, hs, stAV, h1, hf])
        · (simp only [go_sem, chAV, k1, k2, hs, stAV, h1, hmore])
        · omega
      | true =>
        cases h2 : memyB s with
        | true =>
          have hsame := kids_same (show isKid c i true k = false by rw [hkid, h1, h2]; rfl)
          repeat (first | refine aops_op' rfl (by simp only [go_sem, chAV, k1, k2, hs, stAV, h1, h2]; exact ⟨rfl, rfl⟩) ?_ | refine g_run ?_ | refine g_off ?_ | refine aops_call' rfl (rMemory_con env s) (by simp only [go_sem, chAV, k1, k2, hs, stAV, h1, h2]; exact Is.rfl') (by simp only [go_sem, chAV, k1, k2, hs, stAV, h1, h2]; exact ⟨rfl, rfl⟩) ?_ | refine aops_nil (d_end ?_) | refine aops_nil ?_ | refine awp_seq ?_ | refine g_text ?_ | refine g_draw Tryd.mixed ?_ | refine awp_block ?_ | refine awp_skip ?_ | (refine awp_exit ?_; simp only [thenA, blockA, ↓reduceIte, Nat.reduceEqDiff, reduceCtorEq]) | refine awp_yes' (by simp only [go_sem, chAV, k1, k2, hs, stAV, h1, h2]; exact Is.rfl') ?_ | refine awp_no' (by simp only [go_sem, chAV, k1, k2, hs, stAV, h1, h2]; exact Is.rfl') ?_)
          refine ⟨k + 1, ⟨hlt, by simp only [go_sem, he]⟩, ?_, ?_, ?_⟩
          · (simp only [go_sem, chAV, k1, k2, hs, stAV, h1, h2])
          · (simp only [go_sem, chAV, k1, k2, hs, stAV, h1, h2, hsame])
          · omega
        | false =>
          have hmore := kids_more (show isKid c i true k = true by rw [hkid, h1, h2]; rfl)
          repeat (first | refine aops_op' rfl (by simp only [go_sem, chAV, k1, k2, hs, stAV, h1, h2, hf]; exact ⟨rfl, rfl⟩) ?_ | refine g_run ?_ | refine g_off ?_ | refine aops_call' rfl (rMemory_con env s) (by simp only [go_sem, chAV, k1, k2, hs, stAV, h1, h2, hf]; exact Is.rfl') (by simp only [go_sem, chAV, k1, k2, hs, stAV, h1, h2, hf]; exact ⟨rfl, rfl⟩) ?_ | refine aops_nil (d_end ?_) | refine aops_nil ?_ | refine awp_seq ?_ | refine g_text ?_ | refine g_draw Tryd.mixed ?_ | refine awp_block ?_ | refine awp_skip ?_ | (refine awp_exit ?_; simp only [thenA, blockA, ↓reduceIte, Nat.reduceEqDiff, reduceCtorEq]) | refine awp_yes' (by simp only [go_sem, chAV, k1, k2, hs, stAV, h1, h2, hf]; exact Is.rfl') ?_ | refine awp_no' (by simp only [go_sem, chAV, k1, k2, hs, stAV, h1, h2, hf]; exact Is.rfl') ?_)
          refine ⟨k + 1, ⟨hlt, by simp only [go_sem, he]⟩, ?_, ?_, ?_⟩
          · (simp only [go_sem, chAV, k1, k2, hs, stAV, h1, h2, hf])
          · (simp only [go_sem, chAV, k1, k2, hs, stAV, h1, h2, hmore])
          · omega
  · have k1 : ¬ (k : Int) < (c.states.length : Int) := by omega
    obtain rfl : k = c.states.length := by omega
    repeat (first | refine aops_op' rfl (by simp only [go_sem, chAV, k1, he]; exact ⟨rfl, rfl⟩) ?_ | refine g_run ?_ | refine g_off ?_ | refine aops_nil (d_end ?_) | refine aops_nil ?_ | refine awp_seq ?_ | refine g_text ?_ | refine g_draw Tryd.mixed ?_ | refine awp_block ?_ | refine awp_skip ?_ | (refine awp_exit ?_; simp only [thenA, blockA, ↓reduceIte, Nat.reduceEqDiff, reduceCtorEq]) | refine awp_yes' (by simp only [go_sem, chAV, k1, he]; exact Is.rfl') ?_ | refine awp_no' (by simp only [go_sem, chAV, k1, he]; exact Is.rfl') ?_)
    (refine awp_ret ?_; show (resRd _ _ _).run _ = some _; simp only [go_sem, chAV, k1, he])
    rfl

/-! The state of a name -/
theorem pFind_con (env : Env) (c : ChD) (name : List UInt8) (hc : c.states.length ≤ 1000000) : Con Tryd.prog env 34 [.agg (chAV c), Sg name] (I (findI c name)) := by
  refine con_of_body Tryd.func34 rfl Tryd.call34 (by rw [Tryd.ntmps34]; simp) ?_
  rw [Tryd.ntmps34, Tryd.results34]
  repeat (first | refine aops_op' rfl (by simp only [go_sem, chAV]; exact ⟨rfl, rfl⟩) ?_ | refine g_run ?_ | refine g_off ?_ | refine aops_nil (d_end ?_) | refine aops_nil ?_ | refine awp_seq ?_ | refine g_text ?_ | refine g_draw Tryd.mixed ?_ | refine awp_block ?_ | refine awp_skip ?_ | (refine awp_exit ?_; simp only [thenA, blockA, ↓reduceIte, Nat.reduceEqDiff, reduceCtorEq]) | refine awp_yes' (by simp only [go_sem, chAV]; exact Is.rfl') ?_ | refine awp_no' (by simp only [go_sem, chAV]; exact Is.rfl') ?_)
  refine awp_loopH (D := Nat) (fun k _ => [(1, Sg name), (8, stsAV c.states), (9, I c.states.length), (10, I k)]) (fun _ _ => []) (fun k _ _ => k ≤ c.states.length ∧ findTo c name k = -1) (fun k => c.states.length - k) 0 ?_ ?_ ?_ ?_
  · exact ⟨Nat.zero_le _, rfl⟩
  · (simp only [go_sem, chAV])
  · (simp only [go_sem, chAV])
  rintro k ws esc ⟨hk, hf⟩
  by_cases hlt : k < c.states.length
  · obtain ⟨s, hs, _⟩ := some_at hlt
    have k1 := nlt hlt
    have k2 := wrap_succ hlt (by omega)
    cases h1 : (s.name == name) with
    | true =>
      rw [findTo_is c name hlt hf s hs (by simpa using h1)]
      repeat (first | refine aops_op' rfl (by simp only [go_sem, k1, k2, hs, stAV, h1]; exact ⟨rfl, rfl⟩) ?_ | refine g_run ?_ | refine g_off ?_ | refine aops_nil (d_end ?_) | refine aops_nil ?_ | refine awp_seq ?_ | refine g_text ?_ | refine g_draw Tryd.mixed ?_ | refine awp_block ?_ | refine awp_skip ?_ | (refine awp_exit ?_; simp only [thenA, blockA, ↓reduceIte, Nat.reduceEqDiff, reduceCtorEq]) | refine awp_yes' (by simp only [go_sem, k1, k2, hs, stAV, h1]; exact Is.rfl') ?_ | refine awp_no' (by simp only [go_sem, k1, k2, hs, stAV, h1]; exact Is.rfl') ?_)
      (refine awp_ret ?_; show (resRd _ _ _).run _ = some _; simp only [go_sem, k1, k2, hs, stAV, h1])
    | false =>
      repeat (first | refine aops_op' rfl (by simp only [go_sem, k1, k2, hs, stAV, h1]; exact ⟨rfl, rfl⟩) ?_ | refine g_run ?_ | refine g_off ?_ | refine aops_nil (d_end ?_) | refine aops_nil ?_ | refine awp_seq ?_ | refine g_text ?_ | refine g_draw Tryd.mixed ?_ | refine awp_block ?_ | refine awp_skip ?_ | (refine awp_exit ?_; simp only [thenA, blockA, ↓reduceIte, Nat.reduceEqDiff, reduceCtorEq]) | refine awp_yes' (by simp only [go_sem, k1, k2, hs, stAV, h1]; exact Is.rfl') ?_ | refine awp_no' (by simp only [go_sem, k1, k2, hs, stAV, h1]; exact Is.rfl') ?_)
      refine ⟨k + 1, ⟨hlt, findTo_step c name hf s hs (by simpa using h1)⟩, ?_, ?_, ?_⟩
      · (simp only [go_sem, k1, k2, hs, stAV, h1])
      · (simp only [go_sem, k1, k2, hs, stAV, h1])
      · omega
  · have k1 : ¬ (k : Int) < (c.states.length : Int) := by omega
    obtain rfl : k = c.states.length := by omega
    rw [show findI c name = -1 from hf]
    repeat (first | refine aops_op' rfl (by simp only [go_sem, k1]; exact ⟨rfl, rfl⟩) ?_ | refine g_run ?_ | refine g_off ?_ | refine aops_nil (d_end ?_) | refine aops_nil ?_ | refine awp_seq ?_ | refine g_text ?_ | refine g_draw Tryd.mixed ?_ | refine awp_block ?_ | refine awp_skip ?_ | (refine awp_exit ?_; simp only [thenA, blockA, ↓reduceIte, Nat.reduceEqDiff, reduceCtorEq]) | refine awp_yes' (by simp only [go_sem, k1]; exact Is.rfl') ?_ | refine awp_no' (by simp only [go_sem, k1]; exact Is.rfl') ?_)
    (refine awp_ret ?_; show (resRd _ _ _).run _ = some _; simp only [go_sem, k1])
theorem rFind_con (env : Env) (c : ChD) (name : List UInt8) (hc : c.states.length ≤ 1000000) : Con Tryd.prog env 75 [.agg (chAV c), Sg name] (I (findI c name)) := by
  refine con_of_body Tryd.func75 rfl Tryd.call75 (by rw [Tryd.ntmps75]; simp) ?_
  rw [Tryd.ntmps75, Tryd.results75]
  repeat (first | refine aops_op' rfl (by simp only [go_sem, chAV]; exact ⟨rfl, rfl⟩) ?_ | refine g_run ?_ | refine g_off ?_ | refine aops_nil (d_end ?_) | refine aops_nil ?_ | refine awp_seq ?_ | refine g_text ?_ | refine g_draw Tryd.mixed ?_ | refine awp_block ?_ | refine awp_skip ?_ | (refine awp_exit ?_; simp only [thenA, blockA, ↓reduceIte, Nat.reduceEqDiff, reduceCtorEq]) | refine awp_yes' (by simp only [go_sem, chAV]; exact Is.rfl') ?_ | refine awp_no' (by simp only [go_sem, chAV]; exact Is.rfl') ?_)
  refine awp_loopH (D := Nat) (fun k vs => [(1, Sg name), (2, .loc 2 (vs 2) 0 0), (5, I k)]) (fun _ _ => [(2, ⟨5, [chAV c], 26, false⟩)]) (fun k _ _ => k ≤ c.states.length ∧ findTo c name k = -1) (fun k => c.states.length - k) 0 ?_ ?_ ?_ ?_
  · exact ⟨Nat.zero_le _, rfl⟩
  · (simp only [go_sem, chAV])
  · (simp only [go_sem, chAV])
  rintro k ws esc ⟨hk, hf⟩
  by_cases hlt : k < c.states.length
  · obtain ⟨s, hs, _⟩ := some_at hlt
    have k1 := nlt hlt
    have k2 := wrap_succ hlt (by omega)
    cases h1 : (s.name == name) with
    | true =>
      rw [findTo_is c name hlt hf s hs (by simpa using h1)]
      repeat (first | refine aops_op' rfl (by simp only [go_sem, chAV, k1, k2, hs, stAV, h1]; exact ⟨rfl, rfl⟩) ?_ | refine g_run ?_ | refine g_off ?_ | refine aops_nil (d_end ?_) | refine aops_nil ?_ | refine awp_seq ?_ | refine g_text ?_ | refine g_draw Tryd.mixed ?_ | refine awp_block ?_ | refine awp_skip ?_ | (refine awp_exit ?_; simp only [thenA, blockA, ↓reduceIte, Nat.reduceEqDiff, reduceCtorEq]) | refine awp_yes' (by simp only [go_sem, chAV, k1, k2, hs, stAV, h1]; exact Is.rfl') ?_ | refine awp_no' (by simp only [go_sem, chAV, k1, k2, hs, stAV, h1]; exact Is.rfl') ?_)
      (refine awp_ret ?_; show (resRd _ _ _).run _ = some _; simp only [go_sem, chAV, k1, k2, hs, stAV, h1])
    | false =>
      repeat (first | refine aops_op' rfl (by simp only [go_sem, chAV, k1, k2, hs, stAV, h1]; exact ⟨rfl, rfl⟩) ?_ | refine g_run ?_ | refine g_off ?_ | refine aops_nil (d_end ?_) | refine aops_nil ?_ | refine awp_seq ?_ | refine g_text ?_ | refine g_draw Tryd.mixed ?_ | refine awp_block ?_ | refine awp_skip ?_ | (refine awp_exit ?_; simp only [thenA, blockA, ↓reduceIte, Nat.reduceEqDiff, reduceCtorEq]) | refine awp_yes' (by simp only [go_sem, chAV, k1, k2, hs, stAV, h1]; exact Is.rfl') ?_ | refine awp_no' (by simp only [go_sem, chAV, k1, k2, hs, stAV, h1]; exact Is.rfl') ?_)
      refine ⟨k + 1, ⟨hlt, findTo_step c name hf s hs (by simpa using h1)⟩, ?_, ?_, ?_⟩
      · (simp only [go_sem, chAV, k1, k2, hs, stAV, h1])
      · (simp only [go_sem, chAV, k1, k2, hs, stAV, h1])
      · omega
  · have k1 : ¬ (k : Int) < (c.states.length : Int) := by omega
    obtain rfl : k = c.states.length := by omega
    rw [show findI c name = -1 from hf]
    repeat (first | refine aops_op' rfl (by simp only [go_sem, chAV, k1]; exact ⟨rfl, rfl⟩) ?_ | refine g_run ?_ | refine g_off ?_ | refine aops_nil (d_end ?_) | refine aops_nil ?_ | refine awp_seq ?_ | refine g_text ?_ | refine g_draw Tryd.mixed ?_ | refine awp_block ?_ | refine awp_skip ?_ | (refine awp_exit ?_; simp only [thenA, blockA, ↓reduceIte, Nat.reduceEqDiff, reduceCtorEq]) | refine awp_yes' (by simp only [go_sem, chAV, k1]; exact Is.rfl') ?_ | refine awp_no' (by simp only [go_sem, chAV, k1]; exact Is.rfl') ?_)
    (refine awp_ret ?_; show (resRd _ _ _).run _ = some _; simp only [go_sem, chAV, k1])
end Go.Proofs.YtaggnpieofpphaaDoor
