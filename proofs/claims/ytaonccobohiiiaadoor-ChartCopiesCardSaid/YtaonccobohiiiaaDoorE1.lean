/- Errors as values of the walk without memory: the sentinels' variables, fault.New, fault.At, fault.Wrap, fault.Code. -/
import Derived.Test.YtaonccobohiiiaaDoorCO
import Derived.Test.YtaonccobohiiiaaDoorBr
import Derived.Test.YtaonccobohiiiaaDoorErr
set_option linter.unusedSimpArgs false
namespace Go.Proofs.YtaonccobohiiiaaDoor
open Go.RowKit
set_option maxRecDepth 100000
set_option maxHeartbeats 1000000
attribute [local go_sem_proc ↓] reduceIte
attribute [local go_sem_proc] reduceCtorEq Nat.reduceBEq Nat.reduceAdd Nat.reduceSub Nat.reduceEqDiff Nat.reduceLT Nat.reduceLeDiff Nat.reduceMul Int.reduceToNat Int.reduceBEq Int.reduceBNe Int.reduceEq Int.reduceLT Int.reduceLE
attribute [local go_sem] ev_full evFull ev_clear ev_makeFunc funcRd firstRd litsOf evClear List.isEmpty_cons Array.isEmpty_iff ev_makeMap ev_lookup ev_mapUpdate ev_mapEntry ev_entryStore evMapEntry evEntryStore ev_delete evMakeMap evLookup evMapUpdate evDelete pureOf keyCmp mfind oneCells Rd.map AV.bare AV.bare.bareL AV.ofVal resRd resOne resAll HoldF HoldR Takes thenA blockA ev_move ev_assign ev_pick ev_alloc ev_box ev_build ev_buildSlice ev_load ev_store ev_binOp ev_unOp ev_convert ev_iface ev_make ev_slice ev_fieldAddr ev_field ev_indexAddr ev_index ev_extract ev_len ev_append ev_min ev_max evMin evMax gt_tmp gt_int gt_bool gt_str gt_nilS gt_nilP gt_nilI pickRd allocRd buildRd sliceRd loadRd unRd ifaceRd exRd val optRd callRd seen AV.plain AV.soft adopt fzArgs Rd.run AV.asCells newBox runL Comes' Rd.row Rd.bind Out.app apps Eff.app St.renew St.setRow St.show St.put St.init upd evStore evBinR evBin eqFs eqCell evConv evSeq evLen evIndexAddr evFieldAddr evField evIndex bound evSlice evSliceF evAppend evMake loadOf fillAV fillEs fzParts fz fzCell fzCells shows isConstOp splice wrs wes Value.oneCell' List.getD_cons_zero List.getD_cons_succ List.getD_nil List.length_cons List.length_nil List.map_cons List.map_nil List.nil_append List.cons_append List.all_cons List.all_nil List.getElem?_cons_zero List.getElem?_cons_succ List.set_cons_zero List.set_cons_succ List.take_succ_cons List.take_zero List.drop_succ_cons List.drop_zero List.take_nil List.drop_nil List.replicate_succ List.replicate_zero Bool.and_true Bool.true_and Bool.and_self and_self true_and and_true Nat.zero_add Nat.add_zero Option.some.injEq Nat.zero_lt_succ Bool.not_true Bool.not_false ne_eq not_true_eq_false not_false_eq_true Option.map_some Option.map_none List.toList_toArray head headF headR List.length_map Int.toNat_natCast Int.natCast_nonneg List.getElem?_map decide_true decide_false Bool.false_eq_true if_true if_false Bool.or_self Bool.or_true Bool.true_or Bool.false_or Bool.or_false Bool.and_false Bool.false_and List.flatten_cons List.flatten_nil List.append_nil nat0 or_self or_false false_or or_true true_or and_false false_and List.length_append List.isEmpty_nil bne_self_eq_false beq_self_eq_true fits_small strL_l bytesOf_map wants Int.cast_ofNat_Int gt_iff_lt ge_iff_le
attribute [local go_sem ←] List.map_drop List.map_take

/-! Weaker values -/
theorem Str.iface {t : TypeId} {c' c : AV} (h : Str c' c) : Str (.iface t c') (.iface t c) := fun S w v hv => by
  cases hv with
  | iface _ v _ hv => exact .iface t v c (h S w v hv)
theorem Str.ref1 {cs' cs : List AV} {off : Nat} (h : Strs cs' cs) : Str (.ref cs.length [cs'] 0 off) (.ref cs.length [cs] 0 off) := fun S w v hv => by
  cases hv with
  | ref sz es i off b o u hz hc hr =>
    have at' : ∀ (i j : Nat) (c : AV), cellAt [cs] i j = some c → ∃ c', cellAt [cs'] i j = some c' ∧ Str c' c := fun i j c hcc => by
      cases i with
      | zero =>
        have hj : cs[j]? = some c := hcc
        have hlt : j < cs'.length := by rw [h.1]; exact (List.getElem?_eq_some_iff.1 hj).1
        exact ⟨cs'[j], List.getElem?_eq_getElem hlt, h.2 j _ c (List.getElem?_eq_getElem hlt) hj⟩
      | succ i => simp [cellAt] at hcc
    refine .ref _ [cs] 0 off b o u (fun i e he => by
      cases i with
      | zero => simp at he; rw [← he]
      | succ i => simp at he) (fun i j c hcc => ?_) fun i j c hcc => ?_
    · obtain ⟨c', h1, _⟩ := at' i j c hcc
      exact hc i j c' h1
    · obtain ⟨c', h1, h2⟩ := at' i j c hcc
      exact h2 S w _ (hr i j c' h1)

/-- A sentinel; an error of one link: its page, what it wraps; nil. -/
abbrev sentV (a : Addr) : AV := .lit (.iface 143 (.pointer (some a)))
abbrev errV (p : Int) (e : AV) : AV := .iface 70 (.ref 3 [[.any, I p, e]] 0 0)
abbrev nilE : AV := .lit .nilIface
theorem errV_str (s p : AV) (q : Int) (hp : p = I q) (e : AV) : RStr (.iface 70 (.ref 3 [[s, p, e]] 0 0)) (errV q e) := by
  subst hp
  exact .of (.iface (.ref1 (cs := [.any, I q, e]) (.cons (.any _) (.refl _)))) (fun _ _ _ h => by cases h) (fun _ _ _ h => by cases h)

/-- What a variable holds. -/
theorem gt_at {env : Env} {g : Nat} {c : AV} (h : env g = some c) (f : Nat → AV) : gt env f (.global g) = .ref 1 [[c]] 0 0 := by simp only [gt, h]
theorem new_con (env : Env) (s : List UInt8) (a : Addr) : Con Tryd.prog env 31 [Sg s, sentV a] (errV (-1) (sentV a)) := by
  refine con_of_body_w Tryd.func31 rfl Tryd.call31 (by rw [Tryd.ntmps31]; simp) ?_
  rw [Tryd.ntmps31, Tryd.results31]
  repeat (first | refine oO rfl (by simp only [go_sem]; exact ⟨rfl, rfl⟩) ?_ | refine gR ?_ | refine gO ?_ | refine oZ (d_end ?_) | refine oZ ?_ | refine oS ?_ | refine gT ?_ | refine gD Tryd.mixed ?_ | refine oB ?_ | refine oK ?_ | (refine oX ?_; simp only [thenA, blockA, ↓reduceIte, Nat.reduceEqDiff, reduceCtorEq]))
  (refine awp_ret ?_; refine ⟨_, (by show (resRd _ _ _).run _ = some _; simp only [go_sem]; rfl), ?_⟩)
  exact errV_str _ _ _ rfl _

/-! fault.Code -/
theorem con_lit {P : Program} {env : Env} {f : FuncId} {cs : List AV} {u : Value} (henter : ∀ (args : Array Value) (w : World), (callFunc f args).run P w = .ok (.enter f args) w)
    (h : ∀ (w : World) (S : Nat → Nat → Prop) (vs : List Value), EnvOk env S w → vs.length = cs.length → (∀ (i : Nat) (v : Value) (c : AV), vs[i]? = some v → cs[i]? = some c → RV S w v c) → Calls P f vs.toArray w fun e w' => e = .returned u ∧ Below w.heap.size w w') : Con P env f cs (.lit u) := by
  refine ⟨henter, fun w S vs hE hl hv => (h w S vs hE hl hv).mono ?_⟩
  rintro e w' ⟨rfl, hb⟩
  exact ⟨u, rfl, hb, S, fun _ _ h => h, fun _ _ h => .inl h, fun b o hb' => Nat.lt_of_lt_of_le (hE.low b o hb') hb.size, .lit _⟩
theorem err_at {S : Nat → Nat → Prop} {w : World} {v : Value} {p : AV} {a : Addr} (h : RV S w v (.iface 70 (.ref 3 [[.any, p, sentV a]] 0 0))) (ha : Lies w a) : ErrAt w a 1 v := by
  cases h with
  | iface t v c h =>
    cases h with
    | ref sz es i off b o u hz hc hr =>
      have h2 := hc 0 2 (sentV a) rfl
      have h3 := (hr 0 2 (sentV a) rfl).lit_inv
      refine ⟨b, o + (0 * 3 + 0), u 0 2, rfl, ?_, h3, ha⟩
      have := h2.2.1
      simpa using this
end Go.Proofs.YtaonccobohiiiaaDoor
