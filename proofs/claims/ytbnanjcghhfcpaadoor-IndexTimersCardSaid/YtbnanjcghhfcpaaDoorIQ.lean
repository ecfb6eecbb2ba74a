/- The keys of a record's timers: index.Timers, the document's Timers, Same; walked. -/
import Derived.Test.YtbnanjcghhfcpaaDoorIP
import Derived.Test.YtbnanjcghhfcpaaDoorC8
set_option linter.unusedSimpArgs false
namespace Go.Proofs.YtbnanjcghhfcpaaDoor
open Go.RowKit
set_option maxRecDepth 100000
set_option maxHeartbeats 8000000
attribute [local go_sem_proc ↓] reduceIte
attribute [local go_sem_proc] reduceCtorEq Nat.reduceAdd Nat.reduceSub Nat.reduceEqDiff Nat.reduceLT Nat.reduceLeDiff Nat.reduceMul Int.reduceToNat Int.reduceBEq Int.reduceBNe Int.reduceEq Int.reduceLT Int.reduceLE
attribute [local go_sem] resRd resOne resAll HoldF HoldR Takes thenA blockA ev_move ev_assign ev_pick ev_alloc ev_box ev_build ev_buildSlice ev_load ev_store ev_binOp ev_unOp ev_convert ev_iface ev_make ev_slice ev_fieldAddr ev_field ev_indexAddr ev_index ev_extract ev_len ev_append ev_min ev_max evMin evMax gt_tmp gt_int gt_bool gt_str gt_nilS gt_nilP gt_nilI pickRd allocRd buildRd sliceRd loadRd unRd ifaceRd exRd val optRd callRd seen AV.plain adopt fzArgs Rd.run AV.asCells newBox runL Comes' Rd.row Rd.bind Out.app apps Eff.app St.renew St.setRow St.show St.put St.init upd evStore evBin eqFs eqCell evConv evSeq evLen evIndexAddr evFieldAddr evField evIndex bound evSlice evAppend evMake loadOf fillAV fillEs fzParts fz fzCell fzCells shows isConstOp splice wrs wes Value.oneCell' List.getD_cons_zero List.getD_cons_succ List.getD_nil List.length_cons List.length_nil List.map_cons List.map_nil List.nil_append List.cons_append List.all_cons List.all_nil List.getElem?_cons_zero List.getElem?_cons_succ List.set_cons_zero List.set_cons_succ List.take_succ_cons List.take_zero List.drop_succ_cons List.drop_zero List.take_nil List.drop_nil List.replicate_succ List.replicate_zero Bool.and_true Bool.true_and Bool.and_self and_self true_and and_true Nat.zero_add Nat.add_zero Option.some.injEq Nat.zero_lt_succ Bool.not_true Bool.not_false ne_eq not_true_eq_false not_false_eq_true Option.map_some Option.map_none List.toList_toArray head headF headR List.length_map Int.toNat_natCast Int.natCast_nonneg List.getElem?_map decide_true decide_false Bool.false_eq_true if_true if_false Bool.or_self Bool.or_true Bool.true_or Bool.false_or Bool.or_false Bool.and_false Bool.false_and List.flatten_cons List.flatten_nil List.append_nil nat0 or_self or_false false_or or_true true_or and_false false_and List.length_append List.isEmpty_nil bne_self_eq_false beq_self_eq_true fits_small strL_l bytesOf_map wants Int.cast_ofNat_Int gt_iff_lt ge_iff_le
attribute [local go_sem ←] List.map_drop List.map_take

/-- The pairs of the first timers, as they come. -/
def tkL (inst : Nat) (ts : List (List UInt8 × Int)) (n : Nat) : List Pr := (List.range n).map fun i => (timerKey (ts.getD i ([], 0)).2.toNat inst i, (ts.getD i ([], 0)).1)
theorem tkL_len (inst : Nat) (ts : List (List UInt8 × Int)) (n : Nat) : (tkL inst ts n).length = n := by simp [tkL]
theorem tkL_up {inst : Nat} {ts : List (List UInt8 × Int)} {i a : Nat} {nm : List UInt8} (hx : ts[i]? = some (nm, (a : Int))) : tkL inst ts (i + 1) = tkL inst ts i ++ [(timerKey a inst i, nm)] := by
  simp [tkL, List.range_succ, List.getD_eq_getElem?_getD, hx]
/-- Timers that a right record may have. -/
def okTs (ts : List (List UInt8 × Int)) : Prop := ts.length ≤ 8 ∧ ∀ (i : Nat) (x : List UInt8 × Int), ts[i]? = some x → ∃ a : Nat, x.2 = (a : Int) ∧ a ≤ 1099511627776
theorem okTs_of {r : Rc} (h : rightB r = true) : okTs r.timers := by
  simp only [rightB, Bool.and_eq_true] at h
  have ht := h.2
  simp only [timersB, Bool.and_eq_true, decide_eq_true_eq] at ht
  refine ⟨ht.2, fun i x hx => ?_⟩
  have hi : i < r.timers.length := (List.getElem?_eq_some_iff.1 hx).1
  have hA := allB_at ht.1 i hi
  simp only [tmAt, List.getD_eq_getElem?_getD, hx, Option.getD_some, Bool.and_eq_true, clkB, decide_eq_true_eq] at hA
  exact ⟨x.2.toNat, by omega, by omega⟩
theorem tkL_apart {inst : Nat} {ts : List (List UInt8 × Int)} (h : okTs ts) (hi : inst ≤ 2147483647) : ∀ n, n ≤ ts.length → (tkL inst ts n).Pairwise fun x y => x.1 ≠ y.1 := fun n hn => by
  rw [List.pairwise_iff_getElem]
  intro i j hil hjl hij
  rw [tkL_len] at hil hjl
  have hb : ∀ k, k < ts.length → (ts.getD k ([], 0)).2.toNat ≤ 1099511627776 := fun k hk => by
    obtain ⟨a, e, ha⟩ := h.2 k _ (List.getElem?_eq_getElem hk)
    simp only [List.getD_eq_getElem?_getD, List.getElem?_eq_getElem hk, Option.getD_some, e]
    omega
  simp only [tkL, List.getElem_map, List.getElem_range]
  intro e
  have := ((timerKey_inj _ inst i _ inst j (hb i (by omega)) hi (by have := h.1; omega) (hb j (by omega)) hi (by have := h.1; omega)).1 e).2.2
  omega
theorem aops_turn' {P : Program} {env : Env} {s : St} {o : Oper} {f : FuncId} {args : List Operand} {rest : List Stp} {s1 : St} {row : Row} {rs : List Value} {ls ls' : List (List Value)} {K : St → List Foot → Prop} (r : Nat) (hc : callOf s.f o = some (f, args)) (hT : Turns P f rs row.e row.sz ls ls') (e5 : row.es = litEs ls) (e3 : row.pure = true)
    (ha : Is (args.map (gt env s.f)) (.row r (s.vs r) :: rs.map .lit)) (e2 : Is (s.rows r) (some row)) (e4 : Is (s.esc r) false) (h1 : Is ((s.setRow r { row with es := litEs ls' }).put o.dst .any) s1) (k : aops P env rest s1 fun s2 fts => K s2 (⟨[r], [r], [r], []⟩ :: fts)) : aops P env (⟨o, .always⟩ :: rest) s K :=
  aops_turn r hc ha e2 e4 hT e5 e3 h1 k

theorem timers_bad (ad : Nat → Addr) (mo : More) (r : Rc) (inst : Int) (h : numberB inst = false) : Con Tryd.prog (errEnv ad mo) 12 [.agg (recAV r), I inst] (.tuple [nilS, errV (-1) (sentV (ad 2))]) := by
  have f1 := number_con (errEnv ad mo) inst
  have f2 := new_con (errEnv ad mo) [105, 110, 100, 101, 120, 46, 84, 105, 109, 101, 114, 115] (ad 2)
  refine con_of_body Tryd.func12 rfl Tryd.call12 (by rw [Tryd.ntmps12]; simp) ?_
  rw [Tryd.ntmps12, Tryd.results12]
  repeat (first | refine aops_op' rfl (by simp only [go_sem, h, gt_e2, recAV]; exact ⟨rfl, rfl⟩) ?_ | refine g_run ?_ | refine g_off ?_ | refine aops_call' rfl (f1) (by simp only [go_sem, h, gt_e2, recAV]; exact Is.rfl') (by simp only [go_sem, h, gt_e2, recAV]; exact ⟨rfl, rfl⟩) ?_ | refine aops_call' rfl (f2) (by simp only [go_sem, h, gt_e2, recAV]; exact Is.rfl') (by simp only [go_sem, h, gt_e2, recAV]; exact ⟨rfl, rfl⟩) ?_ | refine aops_nil (d_end ?_) | refine aops_nil ?_ | refine awp_seq ?_ | refine g_text ?_ | refine g_draw Tryd.mixed ?_ | refine awp_block ?_ | refine awp_skip ?_ | (refine awp_exit ?_; simp only [thenA, blockA, ↓reduceIte, Nat.reduceEqDiff, reduceCtorEq]) | refine awp_yes' (by simp only [go_sem, h, gt_e2, recAV]; exact Is.rfl') ?_ | refine awp_no' (by simp only [go_sem, h, gt_e2, recAV]; exact Is.rfl') ?_)
  (refine awp_ret ?_; show (resRd _ _ _).run _ = some _; simp only [go_sem, h, gt_e2, recAV])
theorem timers_not (ad : Nat → Addr) (mo : More) (r : Rc) (hl : Lite r) (ht : ∀ t ∈ r.timers, t.1.length ≤ 9223372036854775807) (inst : Int) (h : numberB inst = true) (hr : rightB r = false) : Con Tryd.prog (errEnv ad mo) 12 [.agg (recAV r), I inst] (.tuple [nilS, errV (-1) (errV (-1) (sentV (ad 1)))]) := by
  have f1 := number_con (errEnv ad mo) inst
  have f2 := wrap_con (errEnv ad mo) [105, 110, 100, 101, 120, 46, 84, 105, 109, 101, 114, 115] (-1) (sentV (ad 1))
  have f3 := check_con ad mo r hl ht
  rw [hr] at f3
  simp only [Bool.false_eq_true, if_false] at f3
  refine con_of_body Tryd.func12 rfl Tryd.call12 (by rw [Tryd.ntmps12]; simp) ?_
  rw [Tryd.ntmps12, Tryd.results12]
  repeat (first | refine aops_op' rfl (by simp only [go_sem, h, recAV]; exact ⟨rfl, rfl⟩) ?_ | refine g_run ?_ | refine g_off ?_ | refine aops_call' rfl (f1) (by simp only [go_sem, h, recAV]; exact Is.rfl') (by simp only [go_sem, h, recAV]; exact ⟨rfl, rfl⟩) ?_ | refine aops_call' rfl (f2) (by simp only [go_sem, h, recAV]; exact Is.rfl') (by simp only [go_sem, h, recAV]; exact ⟨rfl, rfl⟩) ?_ | refine aops_call' rfl (f3) (by simp only [go_sem, h, recAV]; exact Is.rfl') (by simp only [go_sem, h, recAV]; exact ⟨rfl, rfl⟩) ?_ | refine aops_nil (d_end ?_) | refine aops_nil ?_ | refine awp_seq ?_ | refine g_text ?_ | refine g_draw Tryd.mixed ?_ | refine awp_block ?_ | refine awp_skip ?_ | (refine awp_exit ?_; simp only [thenA, blockA, ↓reduceIte, Nat.reduceEqDiff, reduceCtorEq]) | refine awp_yes' (by simp only [go_sem, h, recAV]; exact Is.rfl') ?_ | refine awp_no' (by simp only [go_sem, h, recAV]; exact Is.rfl') ?_)
  (refine awp_ret ?_; show (resRd _ _ _).run _ = some _; simp only [go_sem, h, recAV])
theorem timers_yes (ad : Nat → Addr) (mo : More) (r : Rc) (hl : Lite r) (ht : ∀ t ∈ r.timers, t.1.length ≤ 9223372036854775807) (inst : Nat) (hi : 1 ≤ inst) (hi' : inst ≤ 2147483647) (hr : rightB r = true) : Con Tryd.prog (errEnv ad mo) 12 [.agg (recAV r), I inst] (.tuple [.seq 2 ((refP (tkL inst r.timers r.timers.length)).map prAV), nilE]) := by
  have f1 := number_con (errEnv ad mo) inst
  have h : numberB inst = true := by simp [numberB]; omega
  have f3 := check_con ad mo r hl ht
  rw [hr] at f3
  simp only [if_true] at f3
  obtain ⟨hk, hb⟩ := okTs_of hr
  have hap := tkL_apart (okTs_of hr) hi' r.timers.length (Nat.le_refl _)
  have hT := turns_pairs (tkL inst r.timers r.timers.length) hap (by rw [tkL_len]; omega)
  refine con_of_body Tryd.func12 rfl Tryd.call12 (by rw [Tryd.ntmps12]; simp) ?_
  rw [Tryd.ntmps12, Tryd.results12]
  repeat (first | refine aops_op' rfl (by simp only [go_sem, h, recAV]; exact ⟨rfl, rfl⟩) ?_ | refine g_run ?_ | refine g_off ?_ | refine aops_call' rfl (f1) (by simp only [go_sem, h, recAV]; exact Is.rfl') (by simp only [go_sem, h, recAV]; exact ⟨rfl, rfl⟩) ?_ | refine aops_call' rfl (f3) (by simp only [go_sem, h, recAV]; exact Is.rfl') (by simp only [go_sem, h, recAV]; exact ⟨rfl, rfl⟩) ?_ | refine aops_nil (d_end ?_) | refine aops_nil ?_ | refine awp_seq ?_ | refine g_text ?_ | refine g_draw Tryd.mixed ?_ | refine awp_block ?_ | refine awp_skip ?_ | (refine awp_exit ?_; simp only [thenA, blockA, ↓reduceIte, Nat.reduceEqDiff, reduceCtorEq]) | refine awp_yes' (by simp only [go_sem, h, recAV]; exact Is.rfl') ?_ | refine awp_no' (by simp only [go_sem, h, recAV]; exact Is.rfl') ?_)
  refine awp_nilrow 7 7 72 2 ?_
  repeat (first | refine aops_op' rfl (by simp only [go_sem, h, recAV]; exact ⟨rfl, rfl⟩) ?_ | refine g_run ?_ | refine g_off ?_ | refine aops_nil (d_end ?_) | refine aops_nil ?_ | refine awp_seq ?_ | refine g_text ?_ | refine g_draw Tryd.mixed ?_ | refine awp_block ?_ | refine awp_skip ?_ | (refine awp_exit ?_; simp only [thenA, blockA, ↓reduceIte, Nat.reduceEqDiff, reduceCtorEq]) | refine awp_yes' (by simp only [go_sem, h, recAV]; exact Is.rfl') ?_ | refine awp_no' (by simp only [go_sem, h, recAV]; exact Is.rfl') ?_)
  refine awp_loopH (D := Nat) (fun i vs => [(1, I inst), (7, .row 7 (vs 7)), (25, .seq 2 (r.timers.map tmAV)), (26, I r.timers.length), (27, I i)]) (fun i _ => [(7, ⟨2, (tkL inst r.timers i).map prAV, 72, true⟩)]) (fun i _ esc => i ≤ r.timers.length ∧ esc 7 = false) (fun i => r.timers.length - i) 0 ?_ ?_ ?_ ?_
  · exact ⟨Nat.zero_le _, rfl⟩
  · (simp only [go_sem, h, recAV])
  · (simp only [go_sem, h, recAV])
    rfl
  rintro i ws esc ⟨hle, hesc⟩
  by_cases hlt : i < r.timers.length
  · have g1 := nlt hlt
    have g2 := wrap_succ hlt (by omega)
    obtain ⟨⟨nm, at_⟩, hx⟩ : ∃ x, r.timers[i]? = some x := ⟨r.timers[i], List.getElem?_eq_getElem hlt⟩
    obtain ⟨a, ea, ha⟩ := hb i _ hx
    simp only at ea
    subst ea
    have f4 := key_con (errEnv ad mo) a inst i ha hi hi' (by omega)
    have g3 : Fits (i + 1) 32 := fits_small (by omega) (by omega)
    have g4 := tkL_len inst r.timers i
    have g5 : (tkL inst r.timers i).map prAV ++ [[Sg (timerKey a inst i), Sg nm]] = (tkL inst r.timers (i + 1)).map prAV := by rw [tkL_up hx, List.map_append]; rfl
    repeat (first | refine aops_op' rfl (by simp only [go_sem, g1, g2, hx, g3, g4, g5, tmAV, hesc]; exact ⟨rfl, rfl⟩) ?_ | refine g_run ?_ | refine g_off ?_ | refine aops_call' rfl (f4) (by simp only [go_sem, g1, g2, hx, g3, g4, g5, tmAV, hesc]; exact Is.rfl') (by simp only [go_sem, g1, g2, hx, g3, g4, g5, tmAV, hesc]; exact ⟨rfl, rfl⟩) ?_ | refine aops_nil (d_end ?_) | refine aops_nil ?_ | refine awp_seq ?_ | refine g_text ?_ | refine g_draw Tryd.mixed ?_ | refine awp_block ?_ | refine awp_skip ?_ | (refine awp_exit ?_; simp only [thenA, blockA, ↓reduceIte, Nat.reduceEqDiff, reduceCtorEq]) | refine awp_yes' (by simp only [go_sem, g1, g2, hx, g3, g4, g5, tmAV, hesc]; exact Is.rfl') ?_ | refine awp_no' (by simp only [go_sem, g1, g2, hx, g3, g4, g5, tmAV, hesc]; exact Is.rfl') ?_)
    refine ⟨i + 1, ⟨hlt, ?_⟩, ?_, ?_, ?_⟩
    · simp only [go_sem, hesc]
    · (simp only [go_sem, g1, g2, hx, g3, g4, g5, tmAV, hesc])
    · (simp only [go_sem, g1, g2, hx, g3, g4, g5, tmAV, hesc])
    · omega
  · have g1 : ¬ (i : Int) < (r.timers.length : Int) := by omega
    have hil : i = r.timers.length := by omega
    subst hil
    repeat (first | refine aops_op' rfl (by simp only [go_sem, g1, hesc]; exact ⟨rfl, rfl⟩) ?_ | refine g_run ?_ | refine g_off ?_ | refine aops_nil (d_end ?_) | refine aops_nil ?_ | refine awp_seq ?_ | refine g_text ?_ | refine g_draw Tryd.mixed ?_ | refine awp_block ?_ | refine awp_skip ?_ | (refine awp_exit ?_; simp only [thenA, blockA, ↓reduceIte, Nat.reduceEqDiff, reduceCtorEq]) | refine awp_yes' (by simp only [go_sem, g1, hesc]; exact Is.rfl') ?_ | refine awp_no' (by simp only [go_sem, g1, hesc]; exact Is.rfl') ?_)
    refine aops_turn' 7 rfl (row := ⟨2, (tkL inst r.timers r.timers.length).map prAV, 72, true⟩) hT (litEs_pr _).symm rfl (by simp only [go_sem, hesc]; exact Is.rfl') (by simp only [go_sem, hesc]; exact Is.rfl') (by simp only [go_sem, hesc]; exact Is.rfl') (by simp only [go_sem, hesc]; exact Is.rfl') ?_
    have g2 := litEs_pr (refP (tkL inst r.timers r.timers.length))
    repeat (first | refine aops_op' rfl (by simp only [go_sem, g2, hesc]; exact ⟨rfl, rfl⟩) ?_ | refine g_run ?_ | refine g_off ?_ | refine aops_nil (d_end ?_) | refine aops_nil ?_ | refine awp_seq ?_ | refine g_text ?_ | refine g_draw Tryd.mixed ?_ | refine awp_block ?_ | refine awp_skip ?_ | (refine awp_exit ?_; simp only [thenA, blockA, ↓reduceIte, Nat.reduceEqDiff, reduceCtorEq]) | refine awp_yes' (by simp only [go_sem, g2, hesc]; exact Is.rfl') ?_ | refine awp_no' (by simp only [go_sem, g2, hesc]; exact Is.rfl') ?_)
    (refine awp_ret ?_; show (resRd _ _ _).run _ = some _; simp only [go_sem, g2, hesc])
end Go.Proofs.YtbnanjcghhfcpaaDoor
