/- errors.As at a **api.Fault (after the kit's example ToyasAs, turned to this program); fault.Page. -/
import Derived.Test.YtlmekdfleciejaaGreatDoorM16
import Derived.Test.YtlmekdfleciejaaGreatDoorM14
import Derived.WalkKit
import Derived.LaidEql
import Derived.Stop.Asserts
import Derived.RowKitTokens
namespace Go.Proofs.YtlmekdfleciejaaGreatDoor
open Go.RowKit
structure Full (c : ChD) : Prop extends Right c where
  st : ∀ (k : Nat) (s : StD), c.states[k]? = some s → stateB c k s = true
  tr : ∀ (k : Nat) (t : TrD), c.trans[k]? = some t → tranB c t = true
  ini : topB c = true
  ftr : c.trans.length ≤ 64
theorem full_of {c : ChD} (h : (chk c).1 = 0) : Full c := by
  refine ⟨right_of h, ?_, ?_, ?_, ?_⟩ <;>
  · unfold chk at h
    split at h
    · simp at h
    rename_i h1
    split at h
    · simp at h
    split at h
    · simp at h
    split at h
    · simp at h
    rename_i h3
    split at h
    · simp at h
    rename_i h4
    split at h
    · simp at h
    rename_i h5
    first
      | (intro k s hs
         have := firstBad_all h3 k (List.getElem?_eq_some_iff.1 hs).1
         unfold cStAt at this
         rw [hs] at this
         exact this)
      | (intro k t ht
         have := firstBad_all h5 k (List.getElem?_eq_some_iff.1 ht).1
         unfold cTrAt at this
         rw [ht] at this
         exact this)
      | (simpa using h4)
      | omega
theorem Full.shape {c : ChD} (h : Full c) {k : Nat} {s : StD} (hs : c.states[k]? = some s) : shapeB c k s = true := by
  have := h.st k s hs
  simp only [stateB, Bool.and_eq_true] at this
  exact this.1.1.2
theorem inL_iff {l : List Nat} {n : Int} : inL l n = true ↔ ∃ k ∈ l, (k : Int) = n := by
  unfold inL
  rw [List.any_eq_true]
  simp
theorem Full.cases {c : ChD} (h : Full c) {k : Nat} {s : StD} (hs : c.states[k]? = some s) :
    (s.kind = 1 ∧ ((kidsL c k true = [] ∧ s.initial = -1) ∨ ∃ j ∈ kidsL c k true, s.initial = (j : Nat))) ∨ (s.kind = 2 ∧ s.initial = -1 ∧ kidsL c k true ≠ [] ∧ ∀ j ∈ kidsL c k true, normAt c j = true) ∨
      (s.kind = 3 ∧ kidsL c k false = [] ∧ s.initial = -1) ∨ ((s.kind = 4 ∨ s.kind = 5) ∧ kidsL c k false = [] ∧ plainB c s = true ∧ inL (kidsL c s.parent true) s.initial = true) := by
  have hb := h.shape hs
  unfold shapeB at hb
  split at hb
  · rename_i e
    refine .inl ⟨e, ?_⟩
    split at hb
    · rename_i e2
      exact .inl ⟨e2, by simpa using hb⟩
    · obtain ⟨j, hj, e3⟩ := inL_iff.1 hb
      exact .inr ⟨j, hj, e3.symm⟩
  split at hb
  · rename_i e
    simp only [Bool.and_eq_true, decide_eq_true_eq, beq_iff_eq, List.all_eq_true] at hb
    exact .inr (.inl ⟨e, hb.2, fun e2 => by rw [e2] at hb; simp at hb, hb.1.1⟩)
  split at hb
  · rename_i e
    simp only [Bool.and_eq_true, beq_iff_eq] at hb
    exact .inr (.inr (.inl ⟨e, by simpa using hb.1.1.1, hb.1.2⟩))
  split at hb
  · rename_i e
    simp only [Bool.and_eq_true, beq_iff_eq] at hb
    exact .inr (.inr (.inr ⟨e, by simpa using hb.1.1.1.1, hb.1.1.1.2, hb.1.1.2⟩))
  · cases hb
theorem no_kids {c : ChD} {i : Int} (h : kidsL c i false = []) : kidsL c i true = [] := by
  apply List.eq_nil_iff_forall_not_mem.2
  intro k hk
  have := (kid_real hk).1
  rw [h] at this
  simp at this
abbrev zL (l : List Nat) : List Int := l.map fun k : Nat => (k : Int)
/-! What begins with a state -/
def bgF (c : ChD) : Nat → Nat → List Nat
  | 0, _ => []
  | f + 1, i => i :: match c.states[i]? with
    | some s => if s.kind = 1 ∧ 0 ≤ s.initial then bgF c f s.initial.toNat else if s.kind = 2 then (kidsL c i true).flatMap (bgF c f) else []
    | none => []
def bgL (c : ChD) (i : Nat) : List Nat := bgF c 40 i
theorem ini_kid {c : ChD} (h : Full c) {i : Nat} {s : StD} (hs : c.states[i]? = some s) (h1 : s.kind = 1) (h0 : 0 ≤ s.initial) : ∃ j ∈ kidsL c i true, s.initial = (j : Nat) := by
  rcases h.cases hs with ⟨_, ⟨_, e⟩ | e⟩ | ⟨e, _⟩ | ⟨e, _⟩ | ⟨e, _⟩
  · omega
  · exact e
  · omega
  · omega
  · omega
theorem bg_fuel {c : ChD} (h : Full c) : ∀ (f g : Nat) (i : Nat), i < c.states.length → c.states.length ≤ i + f → c.states.length ≤ i + g → bgF c f i = bgF c g i
  | 0, g, i, h0, h1, h2 => by omega
  | f + 1, 0, i, h0, h1, h2 => by omega
  | f + 1, g + 1, i, h0, h1, h2 => by
    unfold bgF
    congr 1
    cases hs : c.states[i]? with
    | none => rfl
    | some s =>
      simp only
      split
      · rename_i e
        obtain ⟨j, hj, e2⟩ := ini_kid h hs e.1 e.2
        have := kid_gt h.toRight (kid_real hj).1
        rw [e2, Int.toNat_natCast]
        exact bg_fuel h f g j (by omega) (by omega) (by omega)
      · split
        · apply flatMap_same
          intro k hk
          have := kid_gt h.toRight (kid_real hk).1
          exact bg_fuel h f g k (by omega) (by omega) (by omega)
        · rfl
theorem bgF_succ (c : ChD) (f i : Nat) : bgF c (f + 1) i = i :: match c.states[i]? with
    | some s => if s.kind = 1 ∧ 0 ≤ s.initial then bgF c f s.initial.toNat else if s.kind = 2 then (kidsL c i true).flatMap (bgF c f) else []
    | none => [] := rfl
theorem bg_eq {c : ChD} (h : Full c) {i : Nat} {s : StD} (hs : c.states[i]? = some s) : bgL c i = i :: if s.kind = 1 ∧ 0 ≤ s.initial then bgL c s.initial.toNat else if s.kind = 2 then (kidsL c i true).flatMap (bgL c) else [] := by
  have hi := (List.getElem?_eq_some_iff.1 hs).1
  have hf := h.few
  have e0 := bgF_succ c 39 i
  rw [hs] at e0
  simp only at e0
  have e1 : ∀ j, j ∈ kidsL c i true → bgF c 39 j = bgL c j := fun j hj => by
    have := kid_gt h.toRight (kid_real hj).1
    exact bg_fuel h 39 40 j (by omega) (by omega) (by omega)
  refine Eq.trans e0 (congrArg (List.cons i) ?_)
  by_cases q : s.kind = 1 ∧ 0 ≤ s.initial
  · rw [if_pos q, if_pos q]
    obtain ⟨j, hj, e2⟩ := ini_kid h hs q.1 q.2
    rw [e2, Int.toNat_natCast]
    exact e1 j hj
  · rw [if_neg q, if_neg q]
    by_cases q2 : s.kind = 2
    · rw [if_pos q2, if_pos q2]
      exact flatMap_same e1
    · rw [if_neg q2, if_neg q2]
theorem flatMap_none {α β : Type} {f : α → List β} : ∀ {l : List α}, (∀ x ∈ l, f x = []) → l.flatMap f = []
  | [], _ => rfl
  | x :: l, h => by
    simp only [List.flatMap_cons]
    rw [h x (by simp), flatMap_none fun y hy => h y (by simp [hy])]
    rfl
theorem flatMap_one {α β : Type} {f : α → List β} {a : α} : ∀ {l : List α}, l.Nodup → a ∈ l → (∀ x ∈ l, x ≠ a → f x = []) → l.flatMap f = f a
  | [], _, ha, _ => by simp at ha
  | x :: l, hn, ha, h => by
    obtain ⟨h1, h2⟩ := List.nodup_cons.1 hn
    simp only [List.flatMap_cons]
    by_cases e : x = a
    · subst e
      rw [flatMap_none fun y hy => h y (by simp [hy]) fun e => h1 (e ▸ hy), List.append_nil]
    · rw [h x (by simp) e, List.nil_append]
      exact flatMap_one h2 ((List.mem_cons.1 ha).resolve_left (Ne.symm e)) fun y hy => h y (by simp [hy])
theorem bg_ref {c : ChD} (h : Full c) {i : Nat} {s : StD} (hs : c.states[i]? = some s) : bgL c i = i :: (kidsL c i true).flatMap fun k => if s.kind = 2 ∨ s.initial = (k : Nat) then bgL c k else [] := by
  rw [bg_eq h hs]
  congr 1
  rcases h.cases hs with ⟨e, ⟨e1, e2⟩ | ⟨j, hj, e2⟩⟩ | ⟨e, e1, _⟩ | ⟨e, e1, _⟩ | ⟨e, e1, _⟩
  · rw [e1, if_neg (by omega), if_neg (by omega)]
    rfl
  · rw [if_pos ⟨e, by omega⟩, e2, Int.toNat_natCast]
    rw [flatMap_one (kidsL_nodup c i true) hj fun x _ hne => by rw [if_neg]; omega]
    rw [if_pos (.inr rfl)]
  · rw [if_neg (by omega), if_pos e]
    apply flatMap_same
    intro k _
    rw [if_pos (.inl e)]
  · rw [if_neg (by omega), if_neg (by omega), no_kids e1]
    rfl
  · rw [if_neg (by omega), if_neg (by omega), no_kids e1]
    rfl
def sbL (c : ChD) (i : Nat) : List Nat := sortL c (zL (bgL c i))
end Go.Proofs.YtlmekdfleciejaaGreatDoor
namespace Go.Proofs.YtlmekdfleciejaaGreatDoor
open Go.RowKit Go.Extern.Stop Go.Stop Go.Extern
theorem Tryz.asvalueOf27 (t : Addr) (w : World) : (ReflectliteValue.unpack (.iface 122 (.pointer (some t)))).run Tryz.prog w
    = .ok (.agg #[.pointer (some ⟨11, 122, none⟩), .pointer (some ⟨w.heap.size, 0, none⟩), .int .u64 150]) (w.alloc (.cells #[.pointer (some t)] 122)) := by kernel_rfl
theorem Tryz.astype27 (a : Addr) (w : World) : (ReflectliteValue.methodAny (ReflectliteValue.valueError "reflectlite.Value.Type" 0) (fun t _ _ _ => ReflectliteType.toType t) #[.agg #[.pointer (some ⟨11, 122, none⟩), .pointer (some a), .int .u64 150]]).run Tryz.prog w
    = .ok (.iface 207 (.agg #[.pointer (some ⟨11, 122, none⟩)])) w := by kernel_rfl
theorem Tryz.asmethodKind (h : Value) (w : World) : (Go.method 392 207 (.agg #[h]) "Kind").run Tryz.prog w = .ok (268, h) w := by kernel_rfl
theorem Tryz.askind27 (w : World) : ((ReflectliteType.abiMethod fun t => (fun a : Nat => Value.int IntKind.u8 (a : Int)) <$> Rtype.kind t) #[.pointer (some ⟨11, 122, none⟩)]).run Tryz.prog w = .ok (.int .u8 22) w := by kernel_rfl
theorem Tryz.askind25 (w : World) : ((ReflectliteType.abiMethod fun t => (fun a : Nat => Value.int IntKind.u8 (a : Int)) <$> Rtype.kind t) #[.pointer (some ⟨11, 120, none⟩)]).run Tryz.prog w = .ok (.int .u8 22) w := by kernel_rfl
theorem rlm (z : Sem Value) (f : TypeId → Addr → Nat → Nat → Sem Value) (v : Value) :
    ReflectliteValue.method z f #[v] = (do match ← ReflectliteValue.parts v with | none => z | some (t, a, fl) => f t a fl (fl % 32)) := rfl
theorem Tryz.asparts27 (a : Addr) (w : World) : (ReflectliteValue.parts (.agg #[.pointer (some ⟨11, 122, none⟩), .pointer (some a), .int .u64 150])).run Tryz.prog w = .ok (some (122, a, 150)) w := by kernel_rfl
theorem Tryz.asisNil27 (a p : Addr) (W : World) (ha : W.cell? a = some (.pointer (some p))) :
    (ReflectliteValue.method (ReflectliteValue.valueError "reflectlite.Value.IsNil" 0) ReflectliteValue.isNil #[.agg #[.pointer (some ⟨11, 122, none⟩), .pointer (some a), .int .u64 150]]).run Tryz.prog W = .ok (.bool false) W := by
  rw [rlm]
  simp only [Sem.run_bind, Tryz.asparts27, Result.andThen]
  simp [ReflectliteValue.isNil, loadVar, isAgg, underlying, Tryz.underlying122, ha, Result.andThen]
theorem Tryz.asmethodElem (h : Value) (w : World) : (Go.method 392 207 (.agg #[h]) "Elem").run Tryz.prog w = .ok (279, .agg #[h]) w := by kernel_rfl
theorem Tryz.asmethodImplements (h : Value) (w : World) : (Go.method 392 207 (.agg #[h]) "Implements").run Tryz.prog w = .ok (280, .agg #[h]) w := by kernel_rfl
theorem Tryz.asmethodAssignableTo (h : Value) (w : World) : (Go.method 392 207 (.agg #[h]) "AssignableTo").run Tryz.prog w = .ok (277, .agg #[h]) w := by kernel_rfl
theorem Tryz.aselem27 (w : World) : (ReflectliteType.method ReflectliteType.elem #[.agg #[.pointer (some ⟨11, 122, none⟩)]]).run Tryz.prog w = .ok (.iface 207 (.agg #[.pointer (some ⟨11, 120, none⟩)])) w := by kernel_rfl
theorem Tryz.asimplements25 (w : World) : (ReflectliteType.relation "Implements" ReflectliteType.implements_ #[.agg #[.pointer (some ⟨11, 120, none⟩)], .iface 207 (.agg #[.pointer (some ⟨11, 51, none⟩)])]).run Tryz.prog w = .ok (.bool true) w := by kernel_rfl
theorem Tryz.astypeOf25 (v : Value) (w : World) : (ReflectliteType.typeOf #[.iface 120 v]).run Tryz.prog w = .ok (.iface 207 (.agg #[.pointer (some ⟨11, 120, none⟩)])) w := by kernel_rfl
theorem Tryz.asassignable25 (w : World) : (ReflectliteType.relation "AssignableTo" ReflectliteType.assignableTo #[.agg #[.pointer (some ⟨11, 120, none⟩)], .iface 207 (.agg #[.pointer (some ⟨11, 120, none⟩)])]).run Tryz.prog w = .ok (.bool true) w := by kernel_rfl
theorem Tryz.asvalueOf25 (e : Addr) (w : World) : (ReflectliteValue.unpack (.iface 120 (.pointer (some e)))).run Tryz.prog w
    = .ok (.agg #[.pointer (some ⟨11, 120, none⟩), .pointer (some ⟨w.heap.size, 0, none⟩), .int .u64 150]) (w.alloc (.cells #[.pointer (some e)] 120)) := by kernel_rfl
theorem Tryz.aselemOf27 (w : World) : (Rtype.elem? 122).run Tryz.prog w = .ok (some 120) w := by kernel_rfl
theorem Tryz.asmk25 (p : Addr) (w : World) : (ReflectliteValue.mk 120 p ReflectliteValue.flagAddr).run Tryz.prog w = .ok (.agg #[.pointer (some ⟨11, 120, none⟩), .pointer (some p), .int .u64 406]) w := by kernel_rfl
theorem Tryz.aselemV27 (a p : Addr) (W : World) (ha : W.cell? a = some (.pointer (some p))) :
    (ReflectliteValue.method (ReflectliteValue.valueError "reflectlite.Value.Elem" 0) ReflectliteValue.elem #[.agg #[.pointer (some ⟨11, 122, none⟩), .pointer (some a), .int .u64 150]]).run Tryz.prog W
      = .ok (.agg #[.pointer (some ⟨11, 120, none⟩), .pointer (some p), .int .u64 406]) W := by
  rw [rlm]
  simp only [Sem.run_bind, Tryz.asparts27, Result.andThen]
  simp [ReflectliteValue.elem, loadVar, isAgg, underlying, Tryz.underlying122, ha, Result.andThen, Tryz.aselemOf27, Tryz.asmk25]
theorem rls (v x : Value) : ReflectliteValue.set #[v, x] = (do
    let (some (dst, a, fl), some (src, b, _)) := (← ReflectliteValue.parts v, ← ReflectliteValue.parts x)
      | unsupported (.noEntry "extern/(internal/reflectlite.Value).Set.zeroValue")
    if fl / ReflectliteValue.flagAddr % 2 == 0 then unsupported (.noEntry "extern/(internal/reflectlite.Value).Set.unaddressable")
    let val ← loadVar src b
    if ← Rtype.directlyAssignable dst src then storeVar dst a val
    else if ← Rtype.implements dst src then
      if (← Rtype.kind src) == 20 then
        match val with
        | .nilIface => unsupported (.noEntry "extern/reflectlite: a nil value of one interface type handed on as a value of another")
        | _ => storeVar dst a val
      else storeVar dst a (.iface src val)
    else panicString ("reflectlite.Set: value of type " ++ (← Rtype.spelt src) ++ " is not assignable to type " ++ (← Rtype.spelt dst))
    pure (.tuple #[])) := rfl
theorem Tryz.asparts25a (a : Addr) (w : World) : (ReflectliteValue.parts (.agg #[.pointer (some ⟨11, 120, none⟩), .pointer (some a), .int .u64 406])).run Tryz.prog w = .ok (some (120, a, 406)) w := by kernel_rfl
theorem Tryz.asparts25 (a : Addr) (w : World) : (ReflectliteValue.parts (.agg #[.pointer (some ⟨11, 120, none⟩), .pointer (some a), .int .u64 150])).run Tryz.prog w = .ok (some (120, a, 150)) w := by kernel_rfl
theorem Tryz.asdirect25 (w : World) : (Rtype.directlyAssignable 120 120).run Tryz.prog w = .ok true w := by kernel_rfl
theorem Tryz.asset25 (ta b e : Addr) (old : Value) (W : World) (hb : W.cell? b = some (.pointer (some e))) (ht : W.cell? ta = some old) (hf : W.frozen? ta = false) :
    (ReflectliteValue.set #[.agg #[.pointer (some ⟨11, 120, none⟩), .pointer (some ta), .int .u64 406], .agg #[.pointer (some ⟨11, 120, none⟩), .pointer (some b), .int .u64 150]]).run Tryz.prog W
      = .ok (.tuple #[]) (W.setCell ta (.pointer (some e))) := by
  rw [rls]
  simp only [Sem.run_bind, Tryz.asparts25a, Tryz.asparts25, Result.andThen]
  simp [ReflectliteValue.flagAddr, loadVar, isAgg, underlying, Tryz.underlying120, hb, Result.andThen, Tryz.asdirect25, storeVar, Value.cells, storeCells, Addr.add]
  rw [run_store Tryz.prog W ta _ _ (by rfl)]
  simp [ht, hf]
set_option maxHeartbeats 4000000 in
theorem as_hit (e t : Addr) (old : Value) (w : World) (hg : w.cell? ⟨9, 0, none⟩ = some (.iface 207 (.agg #[.pointer (some ⟨11, 51, none⟩)]))) (ht0 : w.cell? t = some old) (hf0 : w.frozen? t = false) :
    Calls Tryz.prog 98 #[.iface 120 (.pointer (some e)), .iface 122 (.pointer (some t))] w fun ev w' => ev = .returned (.bool true) ∧ w' = ((((w.alloc (.cells #[.pointer (some t)] 122)).alloc (.cells #[.pointer (some ⟨11, 122, none⟩), .pointer (some ⟨w.heap.size, 0, none⟩), .int .u64 150] 173)).alloc (.cells #[.pointer (some ⟨11, 122, none⟩), .pointer (some ⟨w.heap.size, 0, none⟩), .int .u64 150] 173)).alloc (.cells #[.pointer (some e)] 120)).setCell t (.pointer (some e)) := by
  have h6 := @run_callFunc_extern Tryz.prog 150 _ (fun args => ReflectliteValue.unpack (args.getD 0 (.tuple #[]))) Tryz.func150 (by kernel_rfl) (by kernel_rfl) (by kernel_rfl) (by kernel_rfl)
  have h7 := @run_callFunc_extern Tryz.prog 151 _ (ReflectliteValue.methodAny (ReflectliteValue.valueError "reflectlite.Value.Type" 0) (fun t _ _ _ => ReflectliteType.toType t)) Tryz.func151 (by kernel_rfl) (by kernel_rfl) (by kernel_rfl) (by kernel_rfl)
  have h8 := @run_callFunc_extern Tryz.prog 152 _ (ReflectliteValue.method (ReflectliteValue.valueError "reflectlite.Value.IsNil" 0) ReflectliteValue.isNil) Tryz.func152 (by kernel_rfl) (by kernel_rfl) (by kernel_rfl) (by kernel_rfl)
  have h27 := @run_callFunc_extern Tryz.prog 268 _ (ReflectliteType.abiMethod fun t => do pure (.int .u8 (← Rtype.kind t))) Tryz.func268 (by kernel_rfl) (by kernel_rfl) (by kernel_rfl) (by kernel_rfl)
  have h37 := @run_callFunc_extern Tryz.prog 279 _ (ReflectliteType.method ReflectliteType.elem) Tryz.func279 (by kernel_rfl) (by kernel_rfl) (by kernel_rfl) (by kernel_rfl)
  have h38 := @run_callFunc_extern Tryz.prog 280 _ (ReflectliteType.relation "Implements" ReflectliteType.implements_) Tryz.func280 (by kernel_rfl) (by kernel_rfl) (by kernel_rfl) (by kernel_rfl)
  have h10 := @run_callFunc_extern Tryz.prog 188 _ ReflectliteType.typeOf Tryz.func188 (by kernel_rfl) (by kernel_rfl) (by kernel_rfl) (by kernel_rfl)
  have h35 := @run_callFunc_extern Tryz.prog 277 _ (ReflectliteType.relation "AssignableTo" ReflectliteType.assignableTo) Tryz.func277 (by kernel_rfl) (by kernel_rfl) (by kernel_rfl) (by kernel_rfl)
  have h11 := @run_callFunc_extern Tryz.prog 190 _ (ReflectliteValue.method (ReflectliteValue.valueError "reflectlite.Value.Elem" 0) ReflectliteValue.elem) Tryz.func190 (by kernel_rfl) (by kernel_rfl) (by kernel_rfl) (by kernel_rfl)
  have h12 := @run_callFunc_extern Tryz.prog 191 _ ReflectliteValue.set Tryz.func191 (by kernel_rfl) (by kernel_rfl) (by kernel_rfl) (by kernel_rfl)
  have tO := Tryz.astypeOf25
  have mA := Tryz.asmethodAssignableTo
  have a25 := Tryz.asassignable25
  have v25 := Tryz.asvalueOf25
  have f6 := Tryz.asvalueOf27
  have f7 := Tryz.astype27
  have mK := Tryz.asmethodKind
  have mE := Tryz.asmethodElem
  have mI := Tryz.asmethodImplements
  have k27 := Tryz.askind27
  have k25 := Tryz.askind25
  have e27 := Tryz.aselem27
  have i25 := Tryz.asimplements25
  have n8 := Tryz.asisNil27 ⟨w.heap.size, 0, none⟩ t ((w.alloc (.cells #[.pointer (some t)] 122)).alloc (.cells #[.pointer (some ⟨11, 122, none⟩), .pointer (some ⟨w.heap.size, 0, none⟩), .int .u64 150] 173)) (by simp)
  have hlt : 9 < w.heap.size := cell_lt hg
  have hg2 : ((w.alloc (.cells #[.pointer (some t)] 122)).alloc (.cells #[.pointer (some ⟨11, 122, none⟩), .pointer (some ⟨w.heap.size, 0, none⟩), .int .u64 150] 173)).cell? ⟨9, 0, none⟩ = some (.iface 207 (.agg #[.pointer (some ⟨11, 51, none⟩)])) := by
    rw [World.cell?_alloc_lt _ _ ⟨9, 0, none⟩ (by simp; omega), World.cell?_alloc_lt _ _ ⟨9, 0, none⟩ hlt]; exact hg
  have htl : t.block < w.heap.size := by
    rcases Nat.lt_or_ge t.block w.heap.size with h | h
    · exact h
    · simp [World.cell?, Array.getElem?_eq_none h] at ht0
  have el := Tryz.aselemV27 ⟨w.heap.size, 0, none⟩ t (((w.alloc (.cells #[.pointer (some t)] 122)).alloc (.cells #[.pointer (some ⟨11, 122, none⟩), .pointer (some ⟨w.heap.size, 0, none⟩), .int .u64 150] 173)).alloc (.cells #[.pointer (some ⟨11, 122, none⟩), .pointer (some ⟨w.heap.size, 0, none⟩), .int .u64 150] 173)) (by rw [World.cell?_alloc_lt _ _ ⟨w.heap.size, 0, none⟩ (by simp; omega)]; simp)
  have st := Tryz.asset25 t ⟨w.heap.size + 1 + 1 + 1, 0, none⟩ e old ((((w.alloc (.cells #[.pointer (some t)] 122)).alloc (.cells #[.pointer (some ⟨11, 122, none⟩), .pointer (some ⟨w.heap.size, 0, none⟩), .int .u64 150] 173)).alloc (.cells #[.pointer (some ⟨11, 122, none⟩), .pointer (some ⟨w.heap.size, 0, none⟩), .int .u64 150] 173)).alloc (.cells #[.pointer (some e)] 120))
    (by rw [World.cell?_alloc_at _ _ _ _ (by simp)]; rfl)
    (by rw [World.cell?_alloc_lt _ _ t (by simp; omega), World.cell?_alloc_lt _ _ t (by simp; omega), World.cell?_alloc_lt _ _ t (by simp; omega), World.cell?_alloc_lt _ _ t htl]; exact ht0)
    (by rw [World.frozen?_alloc_old _ _ t (by simp; omega), World.frozen?_alloc_old _ _ t (by simp; omega), World.frozen?_alloc_old _ _ t (by simp; omega), World.frozen?_alloc_old _ _ t (Nat.ne_of_lt htl)]; exact hf0)
  go_enter Tryz.func98, Tryz.ntmps98
  go_wp2
  refine wp_loop_rounds 1 ?_
  rw [rounds_succ]
  go_wp2
  go_ret
  exact ⟨rfl, rfl⟩
end Go.Proofs.YtlmekdfleciejaaGreatDoor
