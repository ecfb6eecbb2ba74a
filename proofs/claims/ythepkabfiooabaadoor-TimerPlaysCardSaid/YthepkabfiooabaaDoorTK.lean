/- An agenda's dues in order: the sort, Clone, All. -/
import Derived.Test.YthepkabfiooabaaDoorTJ
import Derived.Test.YthepkabfiooabaaDoorTU
import Derived.Test.YthepkabfiooabaaDoorSf
set_option linter.unusedSimpArgs false
namespace Go.Proofs.YthepkabfiooabaaDoor
open Go.RowKit
set_option maxRecDepth 100000
set_option maxHeartbeats 4000000
attribute [local go_sem_proc ↓] reduceIte
attribute [local go_sem_proc] reduceCtorEq Nat.reduceBEq Nat.reduceAdd Nat.reduceSub Nat.reduceEqDiff Nat.reduceLT Nat.reduceLeDiff Nat.reduceMul Int.reduceToNat Int.reduceBEq Int.reduceBNe Int.reduceEq Int.reduceLT Int.reduceLE
attribute [local go_sem] ev_clear ev_makeFunc funcRd evClear List.isEmpty_cons Array.isEmpty_iff ev_makeMap ev_lookup ev_mapUpdate ev_delete evMakeMap evLookup evMapUpdate evDelete pureOf keyCmp mfind oneCells Rd.map AV.bare AV.bare.bareL AV.ofVal resRd resOne resAll HoldF HoldR Takes thenA blockA ev_move ev_assign ev_pick ev_alloc ev_box ev_build ev_buildSlice ev_load ev_store ev_binOp ev_unOp ev_convert ev_iface ev_make ev_slice ev_fieldAddr ev_field ev_indexAddr ev_index ev_extract ev_len ev_append ev_min ev_max evMin evMax gt_tmp gt_int gt_bool gt_str gt_nilS gt_nilP gt_nilI pickRd allocRd buildRd sliceRd loadRd unRd ifaceRd exRd val optRd callRd seen AV.plain adopt fzArgs Rd.run AV.asCells newBox runL Comes' Rd.row Rd.bind Out.app apps Eff.app St.renew St.setRow St.show St.put St.init upd evStore evBinR evBin eqFs eqCell evConv evSeq evLen evIndexAddr evFieldAddr evField evIndex bound evSlice evSliceF evAppend evMake loadOf fillAV fillEs fzParts fz fzCell fzCells shows isConstOp splice wrs wes Value.oneCell' List.getD_cons_zero List.getD_cons_succ List.getD_nil List.length_cons List.length_nil List.map_cons List.map_nil List.nil_append List.cons_append List.all_cons List.all_nil List.getElem?_cons_zero List.getElem?_cons_succ List.set_cons_zero List.set_cons_succ List.take_succ_cons List.take_zero List.drop_succ_cons List.drop_zero List.take_nil List.drop_nil List.replicate_succ List.replicate_zero Bool.and_true Bool.true_and Bool.and_self and_self true_and and_true Nat.zero_add Nat.add_zero Option.some.injEq Nat.zero_lt_succ Bool.not_true Bool.not_false ne_eq not_true_eq_false not_false_eq_true Option.map_some Option.map_none List.toList_toArray head headF headR List.length_map Int.toNat_natCast Int.natCast_nonneg List.getElem?_map decide_true decide_false Bool.false_eq_true if_true if_false Bool.or_self Bool.or_true Bool.true_or Bool.false_or Bool.or_false Bool.and_false Bool.false_and List.flatten_cons List.flatten_nil List.append_nil nat0 or_self or_false false_or or_true true_or and_false false_and List.length_append List.isEmpty_nil bne_self_eq_false beq_self_eq_true fits_small strL_l bytesOf_map wants Int.cast_ofNat_Int gt_iff_lt ge_iff_le
attribute [local go_sem ←] List.map_drop List.map_take
attribute [local go_sem] nilRd ev_nilCheck tmpsAre resI resIs cellRd HoldI toRL toKL gin gout nout vin grownR lay AV.ren AV.ren.renL Row.ren headR Option.bind_some Option.bind_none Option.isSome_some Option.isSome_none Option.getD_some Bool.true_eq_false PreOk PostOk EscOk wrs wes List.cons.injEq Prod.mk.injEq forall_const

theorem taops_turn {P : Program} {env : Env} {s : St} {o : Oper} {f : FuncId} {args : List AV} {rest : List Stp} {s1 : St} {row : Row} {rs : List Value} {ls ls' : List (List Value)} {K : St → List Foot → Prop} (r : Nat) (hc : callOf env s.f o = some (f, args)) (hT : Turns P f rs row.e row.sz ls ls') (e5 : row.es = litEs ls) (e3 : row.pure = true)
    (ha : Is args (.row r (s.vs r) :: rs.map .lit)) (e2 : Is (s.rows r) (some row)) (e4 : Is (s.esc r) false) (h1 : Is ((s.setRow r { row with es := litEs ls' }).put o.dst .any) s1) (hrz : row.sz ≠ 0) (k : aops P env rest s1 fun s2 fts => K s2 (⟨[r], [r], [r], []⟩ :: fts)) : aops P env (⟨o, .always⟩ :: rest) s K :=
  aops_turn r hc ha e2 e4 hT e5 e3 hrz h1 k
def encD (d : Due) : List Value := [.int .i64 d.at_, .int .i64 d.inst, .string ⟨d.name.toArray⟩]
theorem litEs_due (l : List Due) : litEs (l.map encD) = l.map dueC := by simp [litEs, encD, dueC, Sg, I]
section
open Go.Shelf Go.Lib Go.Sort
theorem isAggDue : ∀ w, (isAgg 32).run Tryd.prog w = .ok true w := fun w => by kernel_rfl
theorem sizeOfDue : ∀ w, (Go.sizeOf 32).run Tryd.prog w = .ok 3 w := fun w => by kernel_rfl
def cfD (x y : Due) : Int := if dueLess x y then -1 else if dueLess y x then 1 else 0
def Grows (f : FuncId) (args : Array Value) (v : Value) : Prop := ∀ W : World, Calls Tryd.prog f args W fun e w' => e = .returned v ∧ ∃ os', w' = grow W os'
theorem less_any (a b : Due) : Grows 35 #[.agg (encD a).toArray, .agg (encD b).toArray] (.bool (dueLess a b)) := by
  intro W
  obtain ⟨a1, a2, a3⟩ := a
  obtain ⟨b1, b2, b3⟩ := b
  simp only [encD]
  by_cases h1 : a1 = b1
  · subst h1
    have e1 : (a1 != a1) = false := by simp
    by_cases h2 : a2 = b2
    · subst h2
      have e2 : (a2 != a2) = false := by simp
      simp only [dueLess, if_true]
      go_enter Tryd.func35, Tryd.ntmps35
      go_wp2_with fail
      go_ret
      exact ⟨rfl, _, by rw [alloc_eq_grow, alloc_eq_grow, grow_grow]⟩
    · have e2 : (a2 != b2) = true := by simpa using h2
      simp only [dueLess, if_true, if_neg h2]
      go_enter Tryd.func35, Tryd.ntmps35
      go_wp2_with fail
      go_ret
      exact ⟨rfl, _, by rw [alloc_eq_grow, alloc_eq_grow, grow_grow]⟩
  · have e1 : (a1 != b1) = true := by simpa using h1
    simp only [dueLess, if_neg h1]
    go_enter Tryd.func35, Tryd.ntmps35
    go_wp2_with fail
    go_ret
    exact ⟨rfl, _, by rw [alloc_eq_grow, alloc_eq_grow, grow_grow]⟩
theorem below_grow1 {w w' : World} {os : Array Obj} (h : w' = grow w os) : Below w.heap.size w w' := by
  subst h
  exact (Below.refl _ _).grown (row := none) ⟨rfl, rfl, rfl, by simp, fun k hk _ => heap_grow_old w os hk⟩ (Nat.le_refl _) (fun k e => by cases e)
theorem box_cells {W w1 : World} {c1 c2 : Array Value} {t : TypeId} {os : Array Obj} (h : w1 = grow ((W.alloc (.cells c1 t)).alloc (.cells c2 t)) os) (j : Nat) : w1.cell? ⟨W.heap.size, j, none⟩ = c1[j]? ∧ w1.cell? ⟨W.heap.size + 1, j, none⟩ = c2[j]? := by
  have s1 : (W.alloc (.cells c1 t)).heap.size = W.heap.size + 1 := by simp
  have s2 : ((W.alloc (.cells c1 t)).alloc (.cells c2 t)).heap.size = W.heap.size + 2 := by simp
  have e1 : ((W.alloc (.cells c1 t)).alloc (.cells c2 t)).heap[W.heap.size]? = some (.cells c1 t) := by
    rw [heap_alloc_old _ _ (by omega)]; exact heap_alloc_new _ _
  have e2 : ((W.alloc (.cells c1 t)).alloc (.cells c2 t)).heap[W.heap.size + 1]? = some (.cells c2 t) := by
    have := heap_alloc_new (W.alloc (.cells c1 t)) (.cells c2 t)
    rw [s1] at this
    exact this
  generalize (W.alloc (.cells c1 t)).alloc (.cells c2 t) = V at *
  subst h
  constructor
  · rw [cell?_grow _ _ _ (show W.heap.size < V.heap.size by omega)]
    simp only [World.cell?, e1]
    rfl
  · rw [cell?_grow _ _ _ (show W.heap.size + 1 < V.heap.size by omega)]
    simp only [World.cell?, e2]
    rfl
set_option maxHeartbeats 1000000 in
theorem cmp_any' (a b : Due) : Grows 48 #[.agg (encD a).toArray, .agg (encD b).toArray] (.int .i64 (cfD a b)) := by
  intro W
  have l1 := less_any a b
  have l2 := less_any b a
  unfold cfD
  simp only [encD] at l1 l2 ⊢
  cases h1 : dueLess a b with
  | true =>
    rw [h1] at l1
    rw [if_pos rfl]
    go_enter Tryd.func48, Tryd.ntmps48
    go_wp2_with (go_at_call 35; refine (l1 _).mono ?_; rintro e w1 ⟨rfl, os1, hw1⟩; have HB1 := Lib.hid (below_grow1 hw1); have HW1 := Lib.hid hw1; have k0 : w1.cell? ⟨W.heap.size, 0, none⟩ = some (.int .i64 a.at_) := (box_cells hw1 0).1; have k1 : w1.cell? ⟨W.heap.size, 1, none⟩ = some (.int .i64 a.inst) := (box_cells hw1 1).1; have k2 : w1.cell? ⟨W.heap.size, 2, none⟩ = some (.string ⟨a.name.toArray⟩) := (box_cells hw1 2).1; have k3 : w1.cell? ⟨W.heap.size + 1, 0, none⟩ = some (.int .i64 b.at_) := (box_cells hw1 0).2; have k4 : w1.cell? ⟨W.heap.size + 1, 1, none⟩ = some (.int .i64 b.inst) := (box_cells hw1 1).2; have k5 : w1.cell? ⟨W.heap.size + 1, 2, none⟩ = some (.string ⟨b.name.toArray⟩) := (box_cells hw1 2).2; clear hw1)
    go_ret
    exact ⟨rfl, _, by rw [HW1.out, alloc_eq_grow, alloc_eq_grow, grow_grow, grow_grow]⟩
  | false =>
    rw [h1] at l1
    rw [if_neg (by simp)]
    cases h2 : dueLess b a with
    | true =>
      rw [h2] at l2
      rw [if_pos rfl]
      go_enter Tryd.func48, Tryd.ntmps48
      go_wp2_with (go_at_call 35; first | (have h9 := HB1; clear h9; refine (l2 _).mono ?_; rintro e w2 ⟨rfl, os2, hw2⟩; have HB2 := Lib.hid (below_grow1 hw2); have HW2 := Lib.hid hw2; clear hw2) | (refine (l1 _).mono ?_; rintro e w1 ⟨rfl, os1, hw1⟩; have HB1 := Lib.hid (below_grow1 hw1); have HW1 := Lib.hid hw1; have k0 : w1.cell? ⟨W.heap.size, 0, none⟩ = some (.int .i64 a.at_) := (box_cells hw1 0).1; have k1 : w1.cell? ⟨W.heap.size, 1, none⟩ = some (.int .i64 a.inst) := (box_cells hw1 1).1; have k2 : w1.cell? ⟨W.heap.size, 2, none⟩ = some (.string ⟨a.name.toArray⟩) := (box_cells hw1 2).1; have k3 : w1.cell? ⟨W.heap.size + 1, 0, none⟩ = some (.int .i64 b.at_) := (box_cells hw1 0).2; have k4 : w1.cell? ⟨W.heap.size + 1, 1, none⟩ = some (.int .i64 b.inst) := (box_cells hw1 1).2; have k5 : w1.cell? ⟨W.heap.size + 1, 2, none⟩ = some (.string ⟨b.name.toArray⟩) := (box_cells hw1 2).2; clear hw1))
      go_ret
      exact ⟨rfl, _, by rw [HW2.out, HW1.out, alloc_eq_grow, alloc_eq_grow, grow_grow, grow_grow, grow_grow]⟩
    | false =>
      rw [h2] at l2
      rw [if_neg (by simp)]
      go_enter Tryd.func48, Tryd.ntmps48
      go_wp2_with (go_at_call 35; first | (have h9 := HB1; clear h9; refine (l2 _).mono ?_; rintro e w2 ⟨rfl, os2, hw2⟩; have HB2 := Lib.hid (below_grow1 hw2); have HW2 := Lib.hid hw2; clear hw2) | (refine (l1 _).mono ?_; rintro e w1 ⟨rfl, os1, hw1⟩; have HB1 := Lib.hid (below_grow1 hw1); have HW1 := Lib.hid hw1; have k0 : w1.cell? ⟨W.heap.size, 0, none⟩ = some (.int .i64 a.at_) := (box_cells hw1 0).1; have k1 : w1.cell? ⟨W.heap.size, 1, none⟩ = some (.int .i64 a.inst) := (box_cells hw1 1).1; have k2 : w1.cell? ⟨W.heap.size, 2, none⟩ = some (.string ⟨a.name.toArray⟩) := (box_cells hw1 2).1; have k3 : w1.cell? ⟨W.heap.size + 1, 0, none⟩ = some (.int .i64 b.at_) := (box_cells hw1 0).2; have k4 : w1.cell? ⟨W.heap.size + 1, 1, none⟩ = some (.int .i64 b.inst) := (box_cells hw1 1).2; have k5 : w1.cell? ⟨W.heap.size + 1, 2, none⟩ = some (.string ⟨b.name.toArray⟩) := (box_cells hw1 2).2; clear hw1))
      go_ret
      exact ⟨rfl, _, by rw [HW2.out, HW1.out, alloc_eq_grow, alloc_eq_grow, grow_grow, grow_grow, grow_grow]⟩
def sortD (l : List Due) : List Due := l.mergeSort fun x y => !(dueLess y x)
instance : Inhabited Due := ⟨zeroD⟩
theorem ltD (x y : Due) : ltOf cfD x y = dueLess x y := by
  unfold ltOf cfD
  cases h1 : dueLess x y
  · cases h2 : dueLess y x <;> simp
  · simp
theorem turns_dues (l : List Due) (hl : l.length ≤ 4096) :
    Turns Tryd.prog 47 [.func (.func 48) #[] #[]] 32 3 (l.map encD) ((sortD l).map encD) := by
  have ef := Tryd.call47
  by_cases h0 : l = []
  · subst h0
    rw [show sortD [] = [] from by simp [sortD]]
    exact turns_none ef fun p cap w => AnyF.slices_SortFunc_none (P := Tryd.prog) (ρ := Tryd.sortPair_ren) { Tryd.sortPair with } p cap _ w
  have hpos : 0 < l.length := List.length_pos_iff.2 h0
  have hswo : SWO (ltOf cfD) := by
    refine ⟨fun x => ?_, fun x y z h1 h2 => ?_, fun x y z h1 h2 => ?_⟩
    · rw [ltD]; exact due_irrefl _
    · rw [ltD] at *; exact due_trans h1 h2
    · rw [ltD] at *; exact le_trans' h2 h1
  have hT : ∀ x y : Due, ltOf cfD x y = false → ltOf cfD y x = false → x = y := fun x y h1 h2 => by
    rw [ltD] at h1 h2
    exact due_anti h1 h2
  have hs := turns_sortFunc (e := 32) Tryd.sortPair 3 isAggDue sizeOfDue encD (fun _ => rfl) (fun x v hv => by simp [encD] at hv; rcases hv with rfl | rfl | rfl <;> rfl) cfD hswo 48 #[] l hpos (by omega) ef Tryd.call48
    (fun blk w m os dk _ x y => (cmp_any' _ _ _).mono fun e w' h => by obtain ⟨h1, os', h2⟩ := h; exact ⟨h1, 0, os', h2⟩) hT
  have e2 : (l.mergeSort fun x y => !ltOf cfD y x) = sortD l := by
    unfold sortD
    congr 1
    funext x y
    rw [ltD]
  rw [e2] at hs
  exact hs
end
theorem sorted_con (env : Env) (l : List Due) (hl : l.length ≤ 4096) : ConI Tryd.prog env 33 [1000] (fun _ => false) (fun g => [.row 1000 (g 1000)]) (fun _ => [(1000, ⟨3, l.map dueC, 32, true⟩)]) (fun _ => [(1000, ⟨3, (sortD l).map dueC, 32, true⟩)]) (fun g => .row 1000 (g 1000)) := by
  have f1 := turns_dues l hl
  refine ⟨Tryd.call33, _, _, Tryd.func33, rfl, (by intro _; rw [Tryd.ntmps33]; simp), ?_⟩
  intro vs esc hesc
  rw [Tryd.ntmps33, Tryd.results33]
  have e0 := hesc 1000 (by simp)
  repeat (first | refine aops_op' rfl (by simp only [go_sem, e0]; exact ⟨rfl, rfl⟩) ?_ | refine g_run ?_ | refine g_off ?_ | refine aops_nil (d_end ?_) | refine aops_nil ?_ | refine awp_seq ?_ | refine g_text ?_ | refine g_draw Tryd.mixed ?_ | refine awp_block ?_ | refine awp_skip ?_ | (refine awp_exit ?_; simp only [thenA, blockA, ↓reduceIte, Nat.reduceEqDiff, reduceCtorEq]) | refine awp_yes' (by simp only [go_sem, e0]; exact Is.rfl') ?_ | refine awp_no' (by simp only [go_sem, e0]; exact Is.rfl') ?_)
  refine taops_turn 1000 rfl (row := ⟨3, l.map dueC, 32, true⟩) f1 (litEs_due _).symm rfl (by simp only [go_sem, e0]; exact Is.rfl') (by simp only [go_sem, e0]; exact Is.rfl') (by simp only [go_sem, e0]; exact Is.rfl') (by simp only [go_sem, e0]; exact Is.rfl') (Nat.succ_ne_zero 2) ?_
  repeat (first | refine aops_op' rfl (by simp only [go_sem, e0, litEs_due]; exact ⟨rfl, rfl⟩) ?_ | refine g_run ?_ | refine g_off ?_ | refine aops_nil (d_end ?_) | refine aops_nil ?_ | refine awp_seq ?_ | refine g_text ?_ | refine g_draw Tryd.mixed ?_ | refine awp_block ?_ | refine awp_skip ?_ | (refine awp_exit ?_; simp only [thenA, blockA, ↓reduceIte, Nat.reduceEqDiff, reduceCtorEq]) | refine awp_yes' (by simp only [go_sem, e0, litEs_due]; exact Is.rfl') ?_ | refine awp_no' (by simp only [go_sem, e0, litEs_due]; exact Is.rfl') ?_)
  (refine awp_ret ?_; (try simp only [thenA, blockA, ↓reduceIte, Nat.reduceEqDiff, reduceCtorEq]); refine retI_of ?_ ?_ <;> simp only [go_sem, e0, litEs_due, implies_true, and_self, imp_self, false_implies, AV.tuple.injEq, exists_eq_left', ne_eq])
theorem clone_con (env : Env) (l : List Due) (hl : l.length ≤ 4096) : Con Tryd.prog env 34 [.seq 3 (l.map dueC)] (.own 32 3 (l.map dueC)) := by
  cases l with
  | nil =>
    refine Con.empty fun A cap => ?_
    cases A with
    | none =>
      refine con_of_body_w Tryd.func34 rfl Tryd.call34 (by rw [Tryd.ntmps34]; simp) ?_
      rw [Tryd.ntmps34, Tryd.results34]
      repeat (first | refine aops_op' rfl (by simp only [go_sem]; exact ⟨rfl, rfl⟩) ?_ | refine g_run ?_ | refine g_off ?_ | refine aops_nil (d_end ?_) | refine aops_nil ?_ | refine awp_seq ?_ | refine g_text ?_ | refine g_draw Tryd.mixed ?_ | refine awp_block ?_ | refine awp_skip ?_ | (refine awp_exit ?_; simp only [thenA, blockA, ↓reduceIte, Nat.reduceEqDiff, reduceCtorEq]) | refine awp_yes' (by simp only [go_sem]; exact Is.rfl') ?_ | refine awp_no' (by simp only [go_sem]; exact Is.rfl') ?_)
      (refine awp_ret ?_; refine ⟨_, (by show (resRd _ _ _).run _ = some _; simp only [go_sem]; rfl), ?_⟩)
      exact RStr.own_nil _ _ (by decide)
    | some A =>
      refine con_of_body Tryd.func34 rfl Tryd.call34 (by rw [Tryd.ntmps34]; simp) ?_
      rw [Tryd.ntmps34, Tryd.results34]
      repeat (first | refine aops_op' rfl (by simp only [go_sem]; exact ⟨rfl, rfl⟩) ?_ | refine g_run ?_ | refine g_off ?_ | refine aops_nil (d_end ?_) | refine aops_nil ?_ | refine awp_seq ?_ | refine g_text ?_ | refine g_draw Tryd.mixed ?_ | refine awp_block ?_ | refine awp_skip ?_ | (refine awp_exit ?_; simp only [thenA, blockA, ↓reduceIte, Nat.reduceEqDiff, reduceCtorEq]) | refine awp_yes' (by simp only [go_sem]; exact Is.rfl') ?_ | refine awp_no' (by simp only [go_sem]; exact Is.rfl') ?_)
      (refine awp_ret ?_; show (resRd _ _ _).run _ = some _; simp only [go_sem])
  | cons d l =>
    have g1 : Fits ((l.length + 1)) 32 := fits_small (by simpa using hl) (by omega)
    refine con_of_body Tryd.func34 rfl Tryd.call34 (by rw [Tryd.ntmps34]; simp) ?_
    rw [Tryd.ntmps34, Tryd.results34]
    repeat (first | refine aops_op' rfl (by simp only [go_sem, g1]; exact ⟨rfl, rfl⟩) ?_ | refine g_run ?_ | refine g_off ?_ | refine aops_nil (d_end ?_) | refine aops_nil ?_ | refine awp_seq ?_ | refine g_text ?_ | refine g_draw Tryd.mixed ?_ | refine awp_block ?_ | refine awp_skip ?_ | (refine awp_exit ?_; simp only [thenA, blockA, ↓reduceIte, Nat.reduceEqDiff, reduceCtorEq]) | refine awp_yes' (by simp only [go_sem, g1]; exact Is.rfl') ?_ | refine awp_no' (by simp only [go_sem, g1]; exact Is.rfl') ?_)
    (refine awp_ret ?_; show (resRd _ _ _).run _ = some _; simp only [go_sem, g1])
end Go.Proofs.YthepkabfiooabaaDoor
