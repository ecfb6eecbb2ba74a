/- Contracts for the keys of a record's timers: keys, errors, the sort. -/
import Derived.Test.YtbnanjcghhfcpaaDoorIO
import Derived.Test.YtbnanjcghhfcpaaDoorI2
import Derived.Test.YtbnanjcghhfcpaaDoorTU
import Derived.Test.YtbnanjcghhfcpaaDoorSf
import Derived.Test.YtbnanjcghhfcpaaDoorOrd
import Derived.Test.YtbnanjcghhfcpaaDoorReads2
set_option linter.unusedSimpArgs false
namespace Go.Proofs.YtbnanjcghhfcpaaDoor
open Go.RowKit
set_option maxRecDepth 100000
set_option maxHeartbeats 1000000
attribute [local go_sem_proc ↓] reduceIte
attribute [local go_sem_proc] reduceCtorEq Nat.reduceAdd Nat.reduceSub Nat.reduceEqDiff Nat.reduceLT Nat.reduceLeDiff Nat.reduceMul Int.reduceToNat Int.reduceBEq Int.reduceBNe Int.reduceEq Int.reduceLT Int.reduceLE
attribute [local go_sem] resRd resOne resAll HoldF HoldR Takes thenA blockA ev_move ev_assign ev_pick ev_alloc ev_box ev_build ev_buildSlice ev_load ev_store ev_binOp ev_unOp ev_convert ev_iface ev_make ev_slice ev_fieldAddr ev_field ev_indexAddr ev_index ev_extract ev_len ev_append ev_min ev_max evMin evMax gt_tmp gt_int gt_bool gt_str gt_nilS gt_nilP gt_nilI pickRd allocRd buildRd sliceRd loadRd unRd ifaceRd exRd val optRd callRd seen AV.plain adopt fzArgs Rd.run AV.asCells newBox runL Comes' Rd.row Rd.bind Out.app apps Eff.app St.renew St.setRow St.show St.put St.init upd evStore evBin eqFs eqCell evConv evSeq evLen evIndexAddr evFieldAddr evField evIndex bound evSlice evAppend evMake loadOf fillAV fillEs fzParts fz fzCell fzCells shows isConstOp splice wrs wes Value.oneCell' List.getD_cons_zero List.getD_cons_succ List.getD_nil List.length_cons List.length_nil List.map_cons List.map_nil List.nil_append List.cons_append List.all_cons List.all_nil List.getElem?_cons_zero List.getElem?_cons_succ List.set_cons_zero List.set_cons_succ List.take_succ_cons List.take_zero List.drop_succ_cons List.drop_zero List.take_nil List.drop_nil List.replicate_succ List.replicate_zero Bool.and_true Bool.true_and Bool.and_self and_self true_and and_true Nat.zero_add Nat.add_zero Option.some.injEq Nat.zero_lt_succ Bool.not_true Bool.not_false ne_eq not_true_eq_false not_false_eq_true Option.map_some Option.map_none List.toList_toArray head headF headR List.length_map Int.toNat_natCast Int.natCast_nonneg List.getElem?_map decide_true decide_false Bool.false_eq_true if_true if_false Bool.or_self Bool.or_true Bool.true_or Bool.false_or Bool.or_false Bool.and_false Bool.false_and List.flatten_cons List.flatten_nil List.append_nil nat0 or_self or_false false_or or_true true_or and_false false_and List.length_append List.isEmpty_nil bne_self_eq_false beq_self_eq_true fits_small strL_l bytesOf_map wants Int.cast_ofNat_Int gt_iff_lt ge_iff_le
attribute [local go_sem ←] List.map_drop List.map_take

/-- A contract whose result is some plain values. -/
theorem con_tup {P : Program} {env : Env} {f : FuncId} {cs : List AV} {us : List Value} (henter : ∀ (args : Array Value) (w : World), (callFunc f args).run P w = .ok (.enter f args) w)
    (h : ∀ (w : World) (S : Nat → Nat → Prop) (vs : List Value), EnvOk env S w → vs.length = cs.length → (∀ (i : Nat) (v : Value) (c : AV), vs[i]? = some v → cs[i]? = some c → RV S w v c) → Calls P f vs.toArray w fun e w' => e = .returned (.tuple us.toArray) ∧ Below w.heap.size w w') : Con P env f cs (.tuple (us.map .lit)) := by
  refine ⟨henter, fun w S vs hE hl hv => (h w S vs hE hl hv).mono ?_⟩
  rintro e w' ⟨rfl, hb⟩
  refine ⟨_, rfl, hb, S, fun _ _ h => h, fun _ _ h => .inl h, fun b o hb' => Nat.lt_of_lt_of_le (hE.low b o hb') hb.size, .tuple us _ (by simp) fun i v c h1 h2 => ?_⟩
  rw [List.getElem?_map, h1] at h2
  cases h2
  exact .lit _
theorem number_con (env : Env) (n : Int) : Con Tryd.prog env 29 [I n] (B (numberB n)) :=
  con_lit Tryd.call29 fun w S vs hE hl hv => by
    match vs, hl with
    | [v], _ =>
      obtain rfl := (hv 0 v _ rfl rfl).lit_inv
      refine (number_any n w).mono ?_
      rintro e w' ⟨rfl, rfl⟩
      exact ⟨rfl, Below.refl _ _⟩
theorem key_con (env : Env) (a i p : Nat) (ha : a ≤ 1099511627776) (hi : 1 ≤ i) (hi' : i ≤ 2147483647) (hp : p < 8) : Con Tryd.prog env 26 [I a, I i, I p] (.tuple [Sg (timerKey a i p), nilE]) :=
  con_tup (us := [.string ⟨(timerKey a i p).toArray⟩, .nilIface]) Tryd.call26 fun w S vs hE hl hv => by
    match vs, hl with
    | [v, v1, v2], _ =>
      obtain rfl := (hv 0 v _ rfl rfl).lit_inv
      obtain rfl := (hv 1 v1 _ rfl rfl).lit_inv
      obtain rfl := (hv 2 v2 _ rfl rfl).lit_inv
      exact timerKey_yes a i p ha hi hi' hp w
theorem rkey_con (env : Env) (a i p : Nat) (ha : a ≤ 1099511627776) (hi : 1 ≤ i) (hi' : i ≤ 2147483647) (hp : p < 8) : Con Tryd.prog env 36 [I a, I i, I p] (.tuple [Sg (timerKey a i p), I 0]) :=
  con_tup (us := [.string ⟨(timerKey a i p).toArray⟩, .int .i64 0]) Tryd.call36 fun w S vs hE hl hv => by
    match vs, hl with
    | [v, v1, v2], _ =>
      obtain rfl := (hv 0 v _ rfl rfl).lit_inv
      obtain rfl := (hv 1 v1 _ rfl rfl).lit_inv
      obtain rfl := (hv 2 v2 _ rfl rfl).lit_inv
      have ok : okT a i p := ⟨by omega, by omega, by omega, by omega, by omega, by omega⟩
      have := rtimerKey_any a i p w
      rw [show tkKey a i p = timerKey a i p by rw [tkKey, if_pos ok]; simp, show tkCode a i p = 0 by rw [tkCode, if_pos ok]] at this
      exact this

/-! Errors of two links -/
theorem wrap_con (env : Env) (s : List UInt8) (p : Int) (e : AV) : Con Tryd.prog env 31 [Sg s, errV p e] (errV (-1) (errV p e)) := by
  refine con_of_body_w Tryd.func31 rfl Tryd.call31 (by rw [Tryd.ntmps31]; simp) ?_
  rw [Tryd.ntmps31, Tryd.results31]
  repeat (first | refine aops_op' rfl (by simp only [go_sem]; exact ⟨rfl, rfl⟩) ?_ | refine g_run ?_ | refine g_off ?_ | refine aops_nil (d_end ?_) | refine aops_nil ?_ | refine awp_seq ?_ | refine g_text ?_ | refine g_draw Tryd.mixed ?_ | refine awp_block ?_ | refine awp_skip ?_ | (refine awp_exit ?_; simp only [thenA, blockA, ↓reduceIte, Nat.reduceEqDiff, reduceCtorEq]) | refine awp_yes' (by simp only [go_sem]; exact Is.rfl') ?_ | refine awp_no' (by simp only [go_sem]; exact Is.rfl') ?_)
  (refine awp_ret ?_; refine ⟨_, (by show (resRd _ _ _).run _ = some _; simp only [go_sem]; rfl), ?_⟩)
  exact errV_str _ _ _ rfl _
theorem code2_con (ad : Nat → Addr) (mo : More) (k : Nat) (hk : 1 ≤ k ∧ k ≤ 9) (p q : Int) : Con Tryd.prog (errEnv ad mo) 18 [errV p (errV q (sentV (ad k)))] (I k) :=
  con_lit Tryd.call18 fun w S vs hE hl hv => by
    match vs, hl with
    | [v], _ =>
      have hS : Sents w ad := hE.inv.1
      have hE2 : ErrAt w (ad k) 2 v := by
        have h := hv 0 v _ rfl rfl
        cases h with
        | iface t v c h =>
          cases h with
          | ref sz es i off b o u hz hc hr =>
            have h2 := hc 0 2 (errV q (sentV (ad k))) rfl
            have h3 := hr 0 2 (errV q (sentV (ad k))) rfl
            refine ⟨b, o + (0 * 3 + 0), u 0 2, rfl, ?_, err_at h3 (sents_lies hS k hk)⟩
            have := h2.2.1
            simpa using this
      refine (code_any hS k hk 2 v hE2).mono ?_
      rintro e w' ⟨rfl, rfl⟩
      exact ⟨rfl, Below.refl _ _⟩
theorem code0_con (env : Env) : Con Tryd.prog env 18 [nilE] (I 0) :=
  con_lit Tryd.call18 fun w S vs hE hl hv => by
    match vs, hl with
    | [v], _ =>
      obtain rfl := (hv 0 v _ rfl rfl).lit_inv
      refine (code_nil w).mono ?_
      rintro e w' ⟨rfl, rfl⟩
      exact ⟨rfl, Below.refl _ _⟩
theorem ne_beq0 {k : Nat} (h : 1 ≤ k) : ((k : Int) == 0) = false := by simp; omega
theorem tells35_one (ad : Nat → Addr) (mo : More) (k : Nat) (hk : 1 ≤ k ∧ k ≤ 9) (p : Int) : Con Tryd.prog (errEnv ad mo) 13 [errV p (sentV (ad k)), I k] (B true) := by
  have f1 := code_con ad mo k hk (I p)
  have h0 := ne_beq0 hk.1
  refine con_of_body Tryd.func13 rfl Tryd.call13 (by rw [Tryd.ntmps13]; simp) ?_
  rw [Tryd.ntmps13, Tryd.results13]
  repeat (first | refine aops_op' rfl (by simp only [go_sem, h0]; exact ⟨rfl, rfl⟩) ?_ | refine g_run ?_ | refine g_off ?_ | refine aops_call' rfl (f1) (by simp only [go_sem, h0]; exact Is.rfl') (by simp only [go_sem, h0]; exact ⟨rfl, rfl⟩) ?_ | refine aops_nil (d_end ?_) | refine aops_nil ?_ | refine awp_seq ?_ | refine g_text ?_ | refine g_draw Tryd.mixed ?_ | refine awp_block ?_ | refine awp_skip ?_ | (refine awp_exit ?_; simp only [thenA, blockA, ↓reduceIte, Nat.reduceEqDiff, reduceCtorEq]) | refine awp_yes' (by simp only [go_sem, h0]; exact Is.rfl') ?_ | refine awp_no' (by simp only [go_sem, h0]; exact Is.rfl') ?_)
  (refine awp_ret ?_; show (resRd _ _ _).run _ = some _; simp only [go_sem, h0])
theorem tells35_two (ad : Nat → Addr) (mo : More) (k : Nat) (hk : 1 ≤ k ∧ k ≤ 9) (p q : Int) : Con Tryd.prog (errEnv ad mo) 13 [errV p (errV q (sentV (ad k))), I k] (B true) := by
  have f1 := code2_con ad mo k hk p q
  have h0 := ne_beq0 hk.1
  refine con_of_body Tryd.func13 rfl Tryd.call13 (by rw [Tryd.ntmps13]; simp) ?_
  rw [Tryd.ntmps13, Tryd.results13]
  repeat (first | refine aops_op' rfl (by simp only [go_sem, h0]; exact ⟨rfl, rfl⟩) ?_ | refine g_run ?_ | refine g_off ?_ | refine aops_call' rfl (f1) (by simp only [go_sem, h0]; exact Is.rfl') (by simp only [go_sem, h0]; exact ⟨rfl, rfl⟩) ?_ | refine aops_nil (d_end ?_) | refine aops_nil ?_ | refine awp_seq ?_ | refine g_text ?_ | refine g_draw Tryd.mixed ?_ | refine awp_block ?_ | refine awp_skip ?_ | (refine awp_exit ?_; simp only [thenA, blockA, ↓reduceIte, Nat.reduceEqDiff, reduceCtorEq]) | refine awp_yes' (by simp only [go_sem, h0]; exact Is.rfl') ?_ | refine awp_no' (by simp only [go_sem, h0]; exact Is.rfl') ?_)
  (refine awp_ret ?_; show (resRd _ _ _).run _ = some _; simp only [go_sem, h0])

/-! The sort -/
def encP (p : Pr) : List Value := [.string ⟨p.1.toArray⟩, .string ⟨p.2.toArray⟩]
def prAV (p : Pr) : List AV := [Sg p.1, Sg p.2]
theorem litEs_pr (l : List Pr) : litEs (l.map encP) = l.map prAV := by simp [litEs, encP, prAV, Sg]
section
open Go.Shelf Go.Lib Go.Sort
theorem isAggPair : ∀ w, (isAgg 72).run Tryd.prog w = .ok true w := fun w => by kernel_rfl
theorem sizeOfPair : ∀ w, (Go.sizeOf 72).run Tryd.prog w = .ok 2 w := fun w => by kernel_rfl
def cfP (x y : List UInt8) : Int := if Op.bytesLess x y then -1 else 1
set_option maxHeartbeats 1000000 in
theorem cmp_any (a b c d : List UInt8) (W : World) : Calls Tryd.prog 33 #[.agg #[.string ⟨a.toArray⟩, .string ⟨b.toArray⟩], .agg #[.string ⟨c.toArray⟩, .string ⟨d.toArray⟩]] W fun e w' => e = .returned (.int .i64 (cfP a c)) ∧ ∃ q os', w' = grow (W.drewN q) os' := by
  unfold cfP
  by_cases h : Op.bytesLess a c = true
  · rw [if_pos h]
    go_enter Tryd.func33, Tryd.ntmps33
    go_wp2_with fail
    go_ret
    exact ⟨rfl, 0, _, by rw [alloc_eq_grow, alloc_eq_grow, grow_grow]; rfl⟩
  · have h : Op.bytesLess a c = false := by simpa using h
    rw [if_neg (by rw [h]; simp)]
    go_enter Tryd.func33, Tryd.ntmps33
    go_wp2_with fail
    go_ret
    exact ⟨rfl, 0, _, by rw [alloc_eq_grow, alloc_eq_grow, grow_grow]; rfl⟩
theorem turns_pairs (ps : List Pr) (hd : ps.Pairwise (fun x y => x.1 ≠ y.1)) (hl : ps.length ≤ 1000) :
    Turns Tryd.prog 32 [.func (.func 33) #[] #[]] 72 2 (ps.map encP) ((refP ps).map encP) := by
  have ef := Tryd.call32
  by_cases h0 : ps = []
  · subst h0
    exact turns_none ef fun p cap w => AnyF.slices_SortFunc_none (P := Tryd.prog) (ρ := Tryd.sortPair_ren) { Tryd.sortPair with } p cap _ w
  have hpos : 0 < ps.length := List.length_pos_iff.2 h0
  haveI : Inhabited {p // p ∈ ps} := ⟨⟨ps[0], List.getElem_mem hpos⟩⟩
  have hlt : ∀ x y : {p // p ∈ ps}, ltOf (fun x y : {p // p ∈ ps} => cfP x.1.1 y.1.1) x y = Op.bytesLess x.1.1 y.1.1 := fun x y => by
    unfold ltOf cfP
    cases k : Op.bytesLess x.1.1 y.1.1 <;> simp [k]
  have hswo : SWO (ltOf fun x y : {p // p ∈ ps} => cfP x.1.1 y.1.1) := by
    refine ⟨fun x => ?_, fun x y z h1 h2 => ?_, fun x y z h1 h2 => ?_⟩
    · rw [hlt]; exact bl_irrefl _
    · rw [hlt] at *; exact bl_trans h1 h2
    · rw [hlt] at *
      cases k : Op.bytesLess x.1.1 z.1.1
      · rfl
      · cases k2 : Op.bytesLess y.1.1 x.1.1
        · rw [bl_total h1 k2] at k
          rw [k] at h2; cases h2
        · rw [bl_trans k2 k] at h2; cases h2
  have hT : ∀ x y : {p // p ∈ ps}, ltOf (fun x y : {p // p ∈ ps} => cfP x.1.1 y.1.1) x y = false → ltOf (fun x y : {p // p ∈ ps} => cfP x.1.1 y.1.1) y x = false → x = y := fun x y h1 h2 => by
    rw [hlt] at h1 h2
    have e := bl_total h1 h2
    obtain ⟨i, hi, hxi⟩ := List.getElem_of_mem x.2
    obtain ⟨j, hj, hyj⟩ := List.getElem_of_mem y.2
    have hp := List.pairwise_iff_getElem.1 hd
    apply Subtype.ext
    rw [← hxi, ← hyj] at e ⊢
    rcases Nat.lt_trichotomy i j with hij | hij | hij
    · exact absurd e (hp i j hi hj hij)
    · subst hij; rfl
    · exact absurd e.symm (hp j i hj hi hij)
  have hs := turns_sortFunc (e := 72) Tryd.sortPair 2 isAggPair sizeOfPair (fun x : {p // p ∈ ps} => encP x.1) (fun _ => rfl) (fun x v hv => by simp [encP] at hv; rcases hv with rfl | rfl <;> rfl) (fun x y => cfP x.1.1 y.1.1) hswo 33 #[] ps.attach (by simpa using hpos) (by simp; omega) ef Tryd.call33
    (fun blk w m os dk _ x y => cmp_any _ _ _ _ _) hT
  have e1 : ps.attach.map (fun x : {p // p ∈ ps} => encP x.1) = ps.map encP := by
    rw [show (fun x : {p // p ∈ ps} => encP x.1) = encP ∘ Subtype.val from rfl, ← List.map_map, List.attach_map_subtype_val]
  have e2 : (ps.attach.mergeSort fun x y => !ltOf (fun x y : {p // p ∈ ps} => cfP x.1.1 y.1.1) y x).map (fun x : {p // p ∈ ps} => encP x.1) = (refP ps).map encP := by
    rw [refP_sort hd, show (fun x : {p // p ∈ ps} => encP x.1) = encP ∘ Subtype.val from rfl, ← List.map_map]
    congr 1
    rw [List.map_mergeSort (s := fun x y : Pr => !Op.bytesLess y.1 x.1) (fun a _ b _ => by simp only [hlt]), List.attach_map_subtype_val]
  rw [e1, e2] at hs
  exact hs
end
end Go.Proofs.YtbnanjcghhfcpaaDoor
