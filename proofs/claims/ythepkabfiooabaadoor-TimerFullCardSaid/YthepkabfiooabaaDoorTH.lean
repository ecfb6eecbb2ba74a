/- An agenda as rows: down. -/
import Derived.Test.YthepkabfiooabaaDoorTE
set_option linter.unusedSimpArgs false
namespace Go.Proofs.YthepkabfiooabaaDoor
open Go.RowKit
set_option maxRecDepth 100000
set_option maxHeartbeats 4000000
attribute [local go_sem_proc ↓] reduceIte
attribute [local go_sem_proc] reduceCtorEq Nat.reduceBEq Nat.reduceAdd Nat.reduceSub Nat.reduceEqDiff Nat.reduceLT Nat.reduceLeDiff Nat.reduceMul Int.reduceToNat Int.reduceBEq Int.reduceBNe Int.reduceEq Int.reduceLT Int.reduceLE
attribute [local go_sem] ev_clear ev_makeFunc funcRd evClear List.isEmpty_cons Array.isEmpty_iff ev_makeMap ev_lookup ev_mapUpdate ev_delete evMakeMap evLookup evMapUpdate evDelete pureOf keyCmp mfind oneCells Rd.map AV.bare AV.bare.bareL AV.ofVal resRd resOne resAll HoldF HoldR Takes thenA blockA ev_move ev_assign ev_pick ev_alloc ev_box ev_build ev_buildSlice ev_load ev_store ev_binOp ev_unOp ev_convert ev_iface ev_make ev_slice ev_fieldAddr ev_field ev_indexAddr ev_index ev_extract ev_len ev_append ev_min ev_max evMin evMax gt_tmp gt_int gt_bool gt_str gt_nilS gt_nilP gt_nilI pickRd allocRd buildRd sliceRd loadRd unRd ifaceRd exRd val optRd callRd seen AV.plain adopt fzArgs Rd.run AV.asCells newBox runL Comes' Rd.row Rd.bind Out.app apps Eff.app St.renew St.setRow St.show St.put St.init upd evStore evBinR evBin eqFs eqCell evConv evSeq evLen evIndexAddr evFieldAddr evField evIndex bound evSlice evSliceF evAppend evMake loadOf fillAV fillEs fzParts fz fzCell fzCells shows isConstOp splice wrs wes Value.oneCell' List.getD_cons_zero List.getD_cons_succ List.getD_nil List.length_cons List.length_nil List.map_cons List.map_nil List.nil_append List.cons_append List.all_cons List.all_nil List.getElem?_cons_zero List.getElem?_cons_succ List.set_cons_zero List.set_cons_succ List.take_succ_cons List.take_zero List.drop_succ_cons List.drop_zero List.take_nil List.drop_nil List.replicate_succ List.replicate_zero Bool.and_true Bool.true_and Bool.and_self and_self true_and and_true Nat.zero_add Nat.add_zero Option.some.injEq Nat.zero_lt_succ Bool.not_true Bool.not_false ne_eq not_true_eq_false not_false_eq_true Option.map_some Option.map_none List.toList_toArray head headF headR List.length_map Int.toNat_natCast Int.natCast_nonneg List.getElem?_map decide_true decide_false Bool.false_eq_true if_true if_false Bool.or_self Bool.or_true Bool.true_or Bool.false_or Bool.or_false Bool.and_false Bool.false_and List.flatten_cons List.flatten_nil List.append_nil nat0 or_self or_false false_or or_true true_or and_false false_and List.length_append List.isEmpty_nil bne_self_eq_false beq_self_eq_true fits_small strL_l bytesOf_map wants Int.cast_ofNat_Int gt_iff_lt ge_iff_le
attribute [local go_sem ←] List.map_drop List.map_take
attribute [local go_sem] nilRd ev_nilCheck tmpsAre resI resIs cellRd HoldI toRL toKL gin gout nout vin grownR lay AV.ren AV.ren.renL Row.ren headR Option.bind_some Option.bind_none Option.isSome_some Option.isSome_none Option.getD_some Bool.true_eq_false PreOk PostOk EscOk wrs wes List.cons.injEq Prod.mk.injEq forall_const

/-- Is the one at k ahead of the one at b? -/
def condL (l : List Due) (k b : Nat) : Bool := match l[k]?, l[b]? with
  | some x, some y => dueLess x y
  | _, _ => false
/-- The best of a place and of the n first ones of the two beneath it. -/
def bk (l : List Due) (i : Nat) : Nat → Nat
  | 0 => i
  | n + 1 => if condL l (2 * i + 1 + n) (bk l i n) = true then 2 * i + 1 + n else bk l i n
theorem condL_lt {l : List Due} {k b : Nat} (h : condL l k b = true) : k < l.length ∧ b < l.length := by
  unfold condL at h
  split at h
  · rename_i h1 h2
    exact ⟨(List.getElem?_eq_some_iff.1 h1).1, (List.getElem?_eq_some_iff.1 h2).1⟩
  · cases h
theorem condL_off {l : List Due} {k b : Nat} (h : l.length ≤ k) : condL l k b = false := by
  cases hc : condL l k b
  · rfl
  · have := (condL_lt hc).1; omega
theorem bk_off {l : List Due} {i n : Nat} (h : l.length ≤ 2 * i + 1 + n) : ∀ m, bk l i (n + m) = bk l i n
  | 0 => rfl
  | m + 1 => by
    show (if condL l (2 * i + 1 + (n + m)) (bk l i (n + m)) = true then 2 * i + 1 + (n + m) else bk l i (n + m)) = _
    rw [condL_off (by omega), bk_off h m]
    simp
theorem bk_lt {l : List Due} {i : Nat} (hi : i < l.length) : ∀ n, bk l i n < l.length
  | 0 => hi
  | n + 1 => by
    show (if condL l (2 * i + 1 + n) (bk l i n) = true then _ else _) < _
    split
    · rename_i h; exact (condL_lt h).1
    · exact bk_lt hi n
theorem bk_ge (l : List Due) (i : Nat) : ∀ n, bk l i n = i ∨ i < bk l i n
  | 0 => .inl rfl
  | n + 1 => by
    show (if condL l (2 * i + 1 + n) (bk l i n) = true then _ else _) = _ ∨ _ < (if condL l (2 * i + 1 + n) (bk l i n) = true then _ else _)
    split
    · right; omega
    · exact bk_ge l i n
theorem bk_yes {l : List Due} {i n : Nat} {x y : Due} (hx : l[2 * i + 1 + n]? = some x) (hy : l[bk l i n]? = some y) (h : dueLess x y = true) : bk l i (n + 1) = 2 * i + 1 + n := by
  show (if condL l (2 * i + 1 + n) (bk l i n) = true then _ else _) = _
  rw [if_pos (by unfold condL; rw [hx, hy]; exact h)]
theorem bk_no {l : List Due} {i n : Nat} {x y : Due} (hx : l[2 * i + 1 + n]? = some x) (hy : l[bk l i n]? = some y) (h : dueLess x y = false) : bk l i (n + 1) = bk l i n := by
  show (if condL l (2 * i + 1 + n) (bk l i n) = true then _ else _) = _
  rw [if_neg (by unfold condL; rw [hx, hy]; simp [h])]
/-- A due goes down. -/
def downS (l : List Due) (M : Mp) (i : Nat) : List Due × Mp :=
  if _h : i < bk l i 2 ∧ bk l i 2 < l.length then match l[i]?, l[bk l i 2]? with
    | some x, some y => downS (swapL l i (bk l i 2) x y) (swapM M i (bk l i 2) x y) (bk l i 2)
    | _, _ => (l, M)
  else (l, M)
termination_by l.length - i
decreasing_by simp only [swapL_len]; omega
theorem downS_stay {l : List Due} {M : Mp} {i : Nat} (h : bk l i 2 = i) : downS l M i = (l, M) := by
  unfold downS
  rw [dif_neg (by omega)]
theorem downS_go {l : List Due} {M : Mp} {i : Nat} {x y : Due} (hi : i < l.length) (h : bk l i 2 ≠ i) (hx : l[i]? = some x) (hy : l[bk l i 2]? = some y) : downS l M i = downS (swapL l i (bk l i 2) x y) (swapM M i (bk l i 2) x y) (bk l i 2) := by
  conv => lhs; unfold downS
  rw [dif_pos ⟨(bk_ge l i 2).resolve_left h, bk_lt hi 2⟩, hx, hy]
theorem down_con (env : Env) (i : Nat) (l : List Due) (M : Mp) (hi : i < l.length) (hl : l.length ≤ 4096) : ConI Tryd.prog env 32 [1000, 1001, 1002] (fun _ => false) (fun g => [.loc 1000 (g 1000) 0 0, I i]) (fun g => AG g l M) (fun g => AG g (downS l M i).1 (downS l M i).2) (fun _ => .lit (.tuple #[])) := by
  refine ⟨Tryd.call32, _, _, Tryd.func32, rfl, (by intro _; rw [Tryd.ntmps32]; simp), ?_⟩
  intro vs esc hesc
  rw [Tryd.ntmps32, Tryd.results32]
  have e0 := hesc 1000 (by simp)
  have e1 := hesc 1001 (by simp)
  have e2 := hesc 1002 (by simp)
  repeat (first | refine aops_op' rfl (by simp only [go_sem, AG, e0, e1, e2]; exact ⟨rfl, rfl⟩) ?_ | refine g_run ?_ | refine g_off ?_ | refine aops_nil (d_end ?_) | refine aops_nil ?_ | refine awp_seq ?_ | refine g_text ?_ | refine g_draw Tryd.mixed ?_ | refine awp_block ?_ | refine awp_skip ?_ | (refine awp_exit ?_; simp only [thenA, blockA, ↓reduceIte, Nat.reduceEqDiff, reduceCtorEq]) | refine awp_yes' (by simp only [go_sem, AG, e0, e1, e2]; exact Is.rfl') ?_ | refine awp_no' (by simp only [go_sem, AG, e0, e1, e2]; exact Is.rfl') ?_)
  refine awp_loopH (D := List Due × Mp × Nat) (fun d vs' => [(0, .loc 1000 (vs' 1000) 0 0), (1, I d.2.2)]) (fun d vs' => AG vs' d.1 d.2.1) (fun d vs' esc' => (d.2.2 < d.1.length ∧ d.1.length ≤ 4096 ∧ downS l M i = downS d.1 d.2.1 d.2.2) ∧ (vs' 1000 = vs 1000 ∧ vs' 1001 = vs 1001 ∧ vs' 1002 = vs 1002) ∧ esc' 1000 = false ∧ esc' 1001 = false ∧ esc' 1002 = false) (fun d => d.1.length - d.2.2) (l, M, i) ?_ ?_ ?_ ?_
  · exact ⟨⟨hi, hl, rfl⟩, ⟨rfl, rfl, rfl⟩, e0, e1, e2⟩
  · (simp only [go_sem, AG, e0, e1, e2])
  · (simp only [go_sem, AG])
  clear e0 e1 e2
  rintro ⟨l', M', j⟩ ws es ⟨⟨hj, hl', hup⟩, ⟨v0, v1, v2⟩, e0, e1, e2⟩
  simp only at hj hl' hup
  have w1 : IntKind.i64.wrap (2 * (j : Int)) = ((2 * j : Nat) : Int) := by rw [wrap_in (by omega) (by omega)]; omega
  have w2 : IntKind.i64.wrap (((2 * j : Nat) : Int) + 1) = ((2 * j + 1 + 0 : Nat) : Int) := by rw [wrap_in (by omega) (by omega)]; omega
  have w3 : IntKind.i64.wrap (((2 * j : Nat) : Int) + 2) = ((2 * j + 2 : Nat) : Int) := by rw [wrap_in (by omega) (by omega)]; omega
  repeat (first | refine aops_op' rfl (by simp only [go_sem, AG, e0, e1, e2, w1, w2]; exact ⟨rfl, rfl⟩) ?_ | refine g_run ?_ | refine g_off ?_ | refine aops_nil (d_end ?_) | refine aops_nil ?_ | refine awp_seq ?_ | refine g_text ?_ | refine g_draw Tryd.mixed ?_ | refine awp_block ?_ | refine awp_skip ?_ | (refine awp_exit ?_; simp only [thenA, blockA, ↓reduceIte, Nat.reduceEqDiff, reduceCtorEq]) | refine awp_yes' (by simp only [go_sem, AG, e0, e1, e2, w1, w2]; exact Is.rfl') ?_ | refine awp_no' (by simp only [go_sem, AG, e0, e1, e2, w1, w2]; exact Is.rfl') ?_)
  refine awp_loopH (D := Nat) (fun n vs' => [(0, .loc 1000 (vs' 1000) 0 0), (1, I j), (4, I (bk l' j n)), (5, I ((2 * j + 1 + n : Nat)))]) (fun n vs' => AG vs' l' M') (fun n vs' esc' => n ≤ 2 ∧ (vs' 1000 = vs 1000 ∧ vs' 1001 = vs 1001 ∧ vs' 1002 = vs 1002) ∧ esc' 1000 = false ∧ esc' 1001 = false ∧ esc' 1002 = false) (fun n => 2 - n) 0 ?_ ?_ ?_ ?_
  · exact ⟨by omega, ⟨v0, v1, v2⟩, e0, e1, e2⟩
  · (simp only [go_sem, AG, e0, e1, e2, w1, w2])
    rfl
  · (simp only [go_sem, AG])
  clear v0 v1 v2 e0 e1 e2 ws es w2
  rintro n ws es ⟨hn, ⟨v0, v1, v2⟩, e0, e1, e2⟩
  by_cases hk : n < 2 ∧ 2 * j + 1 + n < l'.length
  · have c0 : ((2 * j + 1 + n : Nat) : Int) ≤ ((2 * j + 2 : Nat) : Int) := by omega
    have c1 : ((2 * j + 1 + n : Nat) : Int) < (l'.length : Int) := by omega
    have c2 : ((bk l' j n : Nat) : Int) < (l'.length : Int) := by have := bk_lt hj n; omega
    have c3 : IntKind.i64.wrap (((2 * j + 1 + n : Nat) : Int) + 1) = ((2 * j + 1 + (n + 1) : Nat) : Int) := by rw [wrap_in (by omega) (by omega)]; omega
    obtain ⟨x, hx⟩ : ∃ x, l'[2 * j + 1 + n]? = some x := ⟨l'[2 * j + 1 + n], List.getElem?_eq_getElem hk.2⟩
    obtain ⟨y, hy⟩ : ∃ y, l'[bk l' j n]? = some y := ⟨l'[bk l' j n]'(bk_lt hj n), List.getElem?_eq_getElem (bk_lt hj n)⟩
    have f1 := less_con env x y
    cases hd : dueLess x y with
    | false =>
      rw [hd] at f1
      have hb := bk_no hx hy hd
      repeat (first | refine aops_op' rfl (by simp only [go_sem, AG, e0, e1, e2, w1, w3, c0, c1, c2, c3, hx, hy]; exact ⟨rfl, rfl⟩) ?_ | refine g_run ?_ | refine g_off ?_ | refine aops_call' rfl (f1) (by simp only [go_sem, AG, e0, e1, e2, w1, w3, c0, c1, c2, c3, hx, hy]; exact Is.rfl') (by simp only [go_sem, AG, e0, e1, e2, w1, w3, c0, c1, c2, c3, hx, hy]; exact ⟨rfl, rfl⟩) ?_ | refine aops_nil (d_end ?_) | refine aops_nil ?_ | refine awp_seq ?_ | refine g_text ?_ | refine g_draw Tryd.mixed ?_ | refine awp_block ?_ | refine awp_skip ?_ | (refine awp_exit ?_; simp only [thenA, blockA, ↓reduceIte, Nat.reduceEqDiff, reduceCtorEq]) | refine awp_yes' (by simp only [go_sem, AG, e0, e1, e2, w1, w3, c0, c1, c2, c3, hx, hy]; exact Is.rfl') ?_ | refine awp_no' (by simp only [go_sem, AG, e0, e1, e2, w1, w3, c0, c1, c2, c3, hx, hy]; exact Is.rfl') ?_)
      refine ⟨n + 1, ⟨by omega, ⟨?_, ?_, ?_⟩, ?_, ?_, ?_⟩, ?_, ?_, ?_⟩
      · simp only [go_sem, v0]
      · simp only [go_sem, v1]
      · simp only [go_sem, v2]
      · simp only [go_sem, e0]
      · simp only [go_sem, e1]
      · simp only [go_sem, e2]
      · rw [hb]; (simp only [go_sem, AG, e0, e1, e2, w1, w3, c0, c1, c2, c3, hx, hy])
      · (simp only [go_sem, AG, e0, e1, e2, w1, w3, c0, c1, c2, c3, hx, hy])
      · omega
    | true =>
      rw [hd] at f1
      have hb := bk_yes hx hy hd
      repeat (first | refine aops_op' rfl (by simp only [go_sem, AG, e0, e1, e2, w1, w3, c0, c1, c2, c3, hx, hy]; exact ⟨rfl, rfl⟩) ?_ | refine g_run ?_ | refine g_off ?_ | refine aops_call' rfl (f1) (by simp only [go_sem, AG, e0, e1, e2, w1, w3, c0, c1, c2, c3, hx, hy]; exact Is.rfl') (by simp only [go_sem, AG, e0, e1, e2, w1, w3, c0, c1, c2, c3, hx, hy]; exact ⟨rfl, rfl⟩) ?_ | refine aops_nil (d_end ?_) | refine aops_nil ?_ | refine awp_seq ?_ | refine g_text ?_ | refine g_draw Tryd.mixed ?_ | refine awp_block ?_ | refine awp_skip ?_ | (refine awp_exit ?_; simp only [thenA, blockA, ↓reduceIte, Nat.reduceEqDiff, reduceCtorEq]) | refine awp_yes' (by simp only [go_sem, AG, e0, e1, e2, w1, w3, c0, c1, c2, c3, hx, hy]; exact Is.rfl') ?_ | refine awp_no' (by simp only [go_sem, AG, e0, e1, e2, w1, w3, c0, c1, c2, c3, hx, hy]; exact Is.rfl') ?_)
      refine ⟨n + 1, ⟨by omega, ⟨?_, ?_, ?_⟩, ?_, ?_, ?_⟩, ?_, ?_, ?_⟩
      · simp only [go_sem, v0]
      · simp only [go_sem, v1]
      · simp only [go_sem, v2]
      · simp only [go_sem, e0]
      · simp only [go_sem, e1]
      · simp only [go_sem, e2]
      · rw [hb]; (simp only [go_sem, AG, e0, e1, e2, w1, w3, c0, c1, c2, c3, hx, hy])
      · (simp only [go_sem, AG, e0, e1, e2, w1, w3, c0, c1, c2, c3, hx, hy])
      · omega
  by_cases hn2 : n = 2
  · have hb : bk l' j 2 = bk l' j n := by rw [hn2]
    have c0 : ¬ ((2 * j + 1 + n : Nat) : Int) ≤ ((2 * j + 2 : Nat) : Int) := by omega
    by_cases he : bk l' j n = j
    · have hd : bk l' j 2 = j := hb.trans he
      rw [hup, downS_stay hd]
      have c2 : (((bk l' j n : Nat) : Int) == (j : Int)) = true := by rw [he]; simp
      repeat (first | refine aops_op' rfl (by simp only [go_sem, AG, e0, e1, e2, w1, w3, c0, c2, v0, v1, v2]; exact ⟨rfl, rfl⟩) ?_ | refine g_run ?_ | refine g_off ?_ | refine aops_nil (d_end ?_) | refine aops_nil ?_ | refine awp_seq ?_ | refine g_text ?_ | refine g_draw Tryd.mixed ?_ | refine awp_block ?_ | refine awp_skip ?_ | (refine awp_exit ?_; simp only [thenA, blockA, ↓reduceIte, Nat.reduceEqDiff, reduceCtorEq]) | refine awp_yes' (by simp only [go_sem, AG, e0, e1, e2, w1, w3, c0, c2, v0, v1, v2]; exact Is.rfl') ?_ | refine awp_no' (by simp only [go_sem, AG, e0, e1, e2, w1, w3, c0, c2, v0, v1, v2]; exact Is.rfl') ?_)
      (refine awp_ret ?_; (try simp only [thenA, blockA, ↓reduceIte, Nat.reduceEqDiff, reduceCtorEq]); refine retI_of ?_ ?_ <;> simp only [go_sem, AG, e0, e1, e2, w1, w3, c0, c2, v0, v1, v2, implies_true, and_self, imp_self, false_implies, AV.tuple.injEq, exists_eq_left', ne_eq])
    · have hd : bk l' j 2 ≠ j := fun e => he (hb.symm.trans e)
      obtain ⟨x, hx⟩ : ∃ x, l'[j]? = some x := ⟨l'[j], List.getElem?_eq_getElem hj⟩
      obtain ⟨y, hy⟩ : ∃ y, l'[bk l' j n]? = some y := ⟨l'[bk l' j n]'(bk_lt hj n), List.getElem?_eq_getElem (bk_lt hj n)⟩
      have hgo := downS_go (M := M') hj hd hx (by rw [hb]; exact hy)
      have hgt := (bk_ge l' j 2).resolve_left hd
      rw [hb] at hgo hgt
      have hlt := bk_lt hj n
      have f2 := swap_con env j (bk l' j n) x y l' M' hx hy
      have c2 : (((bk l' j n : Nat) : Int) == (j : Int)) = false := by simp; omega
      repeat (first | refine aops_op' rfl (by simp only [go_sem, AG, e0, e1, e2, w1, w3, c0, c2]; exact ⟨rfl, rfl⟩) ?_ | refine g_run ?_ | refine g_off ?_ | refine aops_nil (d_end ?_) | refine aops_nil ?_ | refine awp_seq ?_ | refine g_text ?_ | refine g_draw Tryd.mixed ?_ | refine awp_block ?_ | refine awp_skip ?_ | (refine awp_exit ?_; simp only [thenA, blockA, ↓reduceIte, Nat.reduceEqDiff, reduceCtorEq]) | refine awp_yes' (by simp only [go_sem, AG, e0, e1, e2, w1, w3, c0, c2]; exact Is.rfl') ?_ | refine awp_no' (by simp only [go_sem, AG, e0, e1, e2, w1, w3, c0, c2]; exact Is.rfl') ?_)
      refine aops_inl [(1000, 1000), (1001, 1001), (1002, 1002)] rfl (f2) (by decide) (by decide) (by simp only [go_sem, AG, e0, e1, e2, w1, w3, c0, c2] <;> rfl) (by simp only [go_sem, AG, e0, e1, e2, w1, w3, c0, c2, and_self] <;> trivial) (by simp only [go_sem, AG, e0, e1, e2, w1, w3, c0, c2, and_self] <;> trivial) (by intro o; simp only [go_sem, AG, e0, e1, e2, w1, w3, c0, c2, behind, and_self] <;> trivial) (by intro o; simp only [go_sem, AG, e0, e1, e2, w1, w3, c0, c2] <;> rfl) (by simp only [go_sem, AG, e0, e1, e2, w1, w3, c0, c2, behind]; exact Is.rfl') (by simp only [go_sem, AG, e0, e1, e2, w1, w3, c0, c2, behind]; exact Is.rfl') ?_
      repeat (first | refine aops_op' rfl (by simp only [go_sem, AG, e0, e1, e2, w1, w3, c0, c2]; exact ⟨rfl, rfl⟩) ?_ | refine g_run ?_ | refine g_off ?_ | refine aops_nil (d_end ?_) | refine aops_nil ?_ | refine awp_seq ?_ | refine g_text ?_ | refine g_draw Tryd.mixed ?_ | refine awp_block ?_ | refine awp_skip ?_ | (refine awp_exit ?_; simp only [thenA, blockA, ↓reduceIte, Nat.reduceEqDiff, reduceCtorEq]) | refine awp_yes' (by simp only [go_sem, AG, e0, e1, e2, w1, w3, c0, c2]; exact Is.rfl') ?_ | refine awp_no' (by simp only [go_sem, AG, e0, e1, e2, w1, w3, c0, c2]; exact Is.rfl') ?_)
      refine ⟨(swapL l' j (bk l' j n) x y, swapM M' j (bk l' j n) x y, bk l' j n), ⟨⟨?_, ?_, ?_⟩, ⟨?_, ?_, ?_⟩, ?_, ?_, ?_⟩, ?_, ?_, ?_⟩
      · rw [swapL_len]; exact hlt
      · rw [swapL_len]; exact hl'
      · rw [hup, hgo]
      · simp only [go_sem, v0]
      · simp only [go_sem, v1]
      · simp only [go_sem, v2]
      · simp only [go_sem, e0]
      · simp only [go_sem, e1]
      · simp only [go_sem, e2]
      · (simp only [go_sem, AG, e0, e1, e2, w1, w3, c0, c2])
      · (simp only [go_sem, AG, e0, e1, e2, w1, w3, c0, c2])
      · simp only [swapL_len]; omega
  · have hlen : l'.length ≤ 2 * j + 1 + n := by omega
    have hb : bk l' j 2 = bk l' j n := by rw [← bk_off hlen (2 - n)]; congr 1; omega
    have c0 : ((2 * j + 1 + n : Nat) : Int) ≤ ((2 * j + 2 : Nat) : Int) := by omega
    have c1 : ¬ ((2 * j + 1 + n : Nat) : Int) < (l'.length : Int) := by omega
    by_cases he : bk l' j n = j
    · have hd : bk l' j 2 = j := hb.trans he
      rw [hup, downS_stay hd]
      have c2 : (((bk l' j n : Nat) : Int) == (j : Int)) = true := by rw [he]; simp
      repeat (first | refine aops_op' rfl (by simp only [go_sem, AG, e0, e1, e2, w1, w3, c0, c1, c2, v0, v1, v2]; exact ⟨rfl, rfl⟩) ?_ | refine g_run ?_ | refine g_off ?_ | refine aops_nil (d_end ?_) | refine aops_nil ?_ | refine awp_seq ?_ | refine g_text ?_ | refine g_draw Tryd.mixed ?_ | refine awp_block ?_ | refine awp_skip ?_ | (refine awp_exit ?_; simp only [thenA, blockA, ↓reduceIte, Nat.reduceEqDiff, reduceCtorEq]) | refine awp_yes' (by simp only [go_sem, AG, e0, e1, e2, w1, w3, c0, c1, c2, v0, v1, v2]; exact Is.rfl') ?_ | refine awp_no' (by simp only [go_sem, AG, e0, e1, e2, w1, w3, c0, c1, c2, v0, v1, v2]; exact Is.rfl') ?_)
      (refine awp_ret ?_; (try simp only [thenA, blockA, ↓reduceIte, Nat.reduceEqDiff, reduceCtorEq]); refine retI_of ?_ ?_ <;> simp only [go_sem, AG, e0, e1, e2, w1, w3, c0, c1, c2, v0, v1, v2, implies_true, and_self, imp_self, false_implies, AV.tuple.injEq, exists_eq_left', ne_eq])
    · have hd : bk l' j 2 ≠ j := fun e => he (hb.symm.trans e)
      obtain ⟨x, hx⟩ : ∃ x, l'[j]? = some x := ⟨l'[j], List.getElem?_eq_getElem hj⟩
      obtain ⟨y, hy⟩ : ∃ y, l'[bk l' j n]? = some y := ⟨l'[bk l' j n]'(bk_lt hj n), List.getElem?_eq_getElem (bk_lt hj n)⟩
      have hgo := downS_go (M := M') hj hd hx (by rw [hb]; exact hy)
      have hgt := (bk_ge l' j 2).resolve_left hd
      rw [hb] at hgo hgt
      have hlt := bk_lt hj n
      have f2 := swap_con env j (bk l' j n) x y l' M' hx hy
      have c2 : (((bk l' j n : Nat) : Int) == (j : Int)) = false := by simp; omega
      repeat (first | refine aops_op' rfl (by simp only [go_sem, AG, e0, e1, e2, w1, w3, c0, c1, c2]; exact ⟨rfl, rfl⟩) ?_ | refine g_run ?_ | refine g_off ?_ | refine aops_nil (d_end ?_) | refine aops_nil ?_ | refine awp_seq ?_ | refine g_text ?_ | refine g_draw Tryd.mixed ?_ | refine awp_block ?_ | refine awp_skip ?_ | (refine awp_exit ?_; simp only [thenA, blockA, ↓reduceIte, Nat.reduceEqDiff, reduceCtorEq]) | refine awp_yes' (by simp only [go_sem, AG, e0, e1, e2, w1, w3, c0, c1, c2]; exact Is.rfl') ?_ | refine awp_no' (by simp only [go_sem, AG, e0, e1, e2, w1, w3, c0, c1, c2]; exact Is.rfl') ?_)
      refine aops_inl [(1000, 1000), (1001, 1001), (1002, 1002)] rfl (f2) (by decide) (by decide) (by simp only [go_sem, AG, e0, e1, e2, w1, w3, c0, c1, c2] <;> rfl) (by simp only [go_sem, AG, e0, e1, e2, w1, w3, c0, c1, c2, and_self] <;> trivial) (by simp only [go_sem, AG, e0, e1, e2, w1, w3, c0, c1, c2, and_self] <;> trivial) (by intro o; simp only [go_sem, AG, e0, e1, e2, w1, w3, c0, c1, c2, behind, and_self] <;> trivial) (by intro o; simp only [go_sem, AG, e0, e1, e2, w1, w3, c0, c1, c2] <;> rfl) (by simp only [go_sem, AG, e0, e1, e2, w1, w3, c0, c1, c2, behind]; exact Is.rfl') (by simp only [go_sem, AG, e0, e1, e2, w1, w3, c0, c1, c2, behind]; exact Is.rfl') ?_
      repeat (first | refine aops_op' rfl (by simp only [go_sem, AG, e0, e1, e2, w1, w3, c0, c1, c2]; exact ⟨rfl, rfl⟩) ?_ | refine g_run ?_ | refine g_off ?_ | refine aops_nil (d_end ?_) | refine aops_nil ?_ | refine awp_seq ?_ | refine g_text ?_ | refine g_draw Tryd.mixed ?_ | refine awp_block ?_ | refine awp_skip ?_ | (refine awp_exit ?_; simp only [thenA, blockA, ↓reduceIte, Nat.reduceEqDiff, reduceCtorEq]) | refine awp_yes' (by simp only [go_sem, AG, e0, e1, e2, w1, w3, c0, c1, c2]; exact Is.rfl') ?_ | refine awp_no' (by simp only [go_sem, AG, e0, e1, e2, w1, w3, c0, c1, c2]; exact Is.rfl') ?_)
      refine ⟨(swapL l' j (bk l' j n) x y, swapM M' j (bk l' j n) x y, bk l' j n), ⟨⟨?_, ?_, ?_⟩, ⟨?_, ?_, ?_⟩, ?_, ?_, ?_⟩, ?_, ?_, ?_⟩
      · rw [swapL_len]; exact hlt
      · rw [swapL_len]; exact hl'
      · rw [hup, hgo]
      · simp only [go_sem, v0]
      · simp only [go_sem, v1]
      · simp only [go_sem, v2]
      · simp only [go_sem, e0]
      · simp only [go_sem, e1]
      · simp only [go_sem, e2]
      · (simp only [go_sem, AG, e0, e1, e2, w1, w3, c0, c1, c2])
      · (simp only [go_sem, AG, e0, e1, e2, w1, w3, c0, c1, c2])
      · simp only [swapL_len]; omega
end Go.Proofs.YthepkabfiooabaaDoor
