/- YthffdneigmbgfaaGreatDoorG1 -/
import Derived.Test.YthffdneigmbgfaaGreatDoorM5
import Derived.Test.YthffdneigmbgfaaGreatDoorM12
import Derived.Test.YthffdneigmbgfaaGreatDoorM14
import Derived.Test.YthffdneigmbgfaaGreatDoorM19
import Derived.Test.YthffdneigmbgfaaGreatDoorM35
namespace Go.Proofs.YthffdneigmbgfaaGreatDoor
open Go.RowKit
abbrev U (n : Int) : AV := .lit (.int .u64 n)
end Go.Proofs.YthffdneigmbgfaaGreatDoor
namespace Go.Proofs.YthffdneigmbgfaaGreatDoor
open Go.RowKit Go.Stop
/-! Closed facts -/
theorem Tryz.callTypeOf (v : Value) (w : World) : (callFunc 162 #[.iface 226 v]).run Tryz.prog w = .ok (.value (.iface 190 (.agg #[.pointer (some ⟨11, 226, none⟩)]))) w := by kernel_rfl
theorem Tryz.callComparable (w : World) : (callFunc 237 #[.agg #[.pointer (some ⟨11, 226, none⟩)]]).run Tryz.prog w = .ok (.value (.bool true)) w := by kernel_rfl
theorem Tryz.isComp : (Tryz.prog.info? 226).map (·.comparable) = some true := by kernel_rfl
theorem Tryz.isSize : (Tryz.prog.info? 246).map (·.size) = some 1 := by kernel_rfl
theorem Tryz.noIsE (v : Value) (xT : TypeId) (w : World) : (Instr.typeAssert (.iface 226 v) xT 208 true).run Tryz.prog w = .ok (.tuple #[.nilIface, .bool false]) w := run_typeAssert_lacksB Tryz.underlying208 (by kernel_rfl) (by kernel_rfl) v xT w
theorem Tryz.noUnwrapE (v : Value) (xT : TypeId) (w : World) : (Instr.typeAssert (.iface 226 v) xT 197 true).run Tryz.prog w = .ok (.tuple #[.nilIface, .bool false]) w := run_typeAssert_lacksB Tryz.underlying197 (by kernel_rfl) (by kernel_rfl) v xT w
theorem Tryz.noUnwrapsE (v : Value) (xT : TypeId) (w : World) : (Instr.typeAssert (.iface 226 v) xT 199 true).run Tryz.prog w = .ok (.tuple #[.nilIface, .bool false]) w := run_typeAssert_lacksB Tryz.underlying199 (by kernel_rfl) (by kernel_rfl) v xT w
theorem Tryz.noIsW (v : Value) (xT : TypeId) (w : World) : (Instr.typeAssert (.iface 124 v) xT 208 true).run Tryz.prog w = .ok (.tuple #[.nilIface, .bool false]) w := run_typeAssert_lacksB Tryz.underlying208 (by kernel_rfl) (by kernel_rfl) v xT w
theorem Tryz.hasUnwrapW (v : Value) (xT : TypeId) (w : World) : (Instr.typeAssert (.iface 124 v) xT 197 true).run Tryz.prog w = .ok (.tuple #[.iface 124 v, .bool true]) w := run_typeAssert_hasB Tryz.underlying197 (by kernel_rfl) v xT w
set_option maxRecDepth 1000000 in
theorem is_chain {W : World} (a b : Addr) (hb : Lies W b) : ∀ (n : Nat) (E : Value), ErrAt W a n E →
    Calls Tryz.prog 163 #[E, .iface 226 (.pointer (some b)), .bool true] W fun e w' => e = .returned (.bool (decide (a = b))) ∧ W = w' := by
  intro n E hE
  obtain ⟨i, hi, hcmp⟩ := Option.map_eq_some_iff.1 Tryz.isComp
  obtain ⟨j, hj, hjs⟩ := Option.map_eq_some_iff.1 Tryz.isSize
  have nE := Tryz.noIsE
  have uE := Tryz.noUnwrapE
  have vE := Tryz.noUnwrapsE
  have nW := Tryz.noIsW
  have uW := Tryz.hasUnwrapW
  have HE := Lib.hid hE
  try clear hE
  go_enter Tryz.func163, Tryz.ntmps163
  go_wp2
  go_loopg [0] n (fun m E' wl => W = wl ∧ ErrAt W a m E')
  case atStart => exact ⟨rfl, HE.out⟩
  case round =>
    obtain ⟨rfl, hE⟩ := hrel
    cases gk with
    | zero =>
      obtain ⟨rfl, ca, ta, ha⟩ := hE
      by_cases hab : a = b
      · subst hab
        have heq := run_eql_iface_ptr_same (P := Tryz.prog) W a Tryz.underlying55 Tryz.underlying226 hi hcmp hj
        try clear ha
        go_wp2
        go_ret
        exact ⟨by simp, rfl⟩
      · obtain ⟨cb, tb, hb'⟩ := hb
        have heq := run_eql_iface_ptr_other (P := Tryz.prog) W Tryz.underlying55 Tryz.underlying226 hi hcmp hj (by rw [hjs]; decide) hab ha hb'
        try clear ha hb'
        go_wp2
        go_ret
        exact ⟨by simp [hab], rfl⟩
    | succ m =>
      obtain ⟨pb, po, E', rfl, hcell, hE'⟩ := hE
      have hty := run_eql_iface_types (P := Tryz.prog) 124 226 (.pointer (some ⟨pb, po, none⟩)) (.pointer (some b)) Tryz.underlying55 (by decide) W
      obtain ⟨u1, v1, rfl⟩ := hE'.form
      have HE' := Lib.hid hE'
      try clear hE'
      go_wp2
      go_roundg m
      case rel => exact ⟨rfl, HE'.out⟩
      case measure => omega
set_option maxRecDepth 100000 in
theorem is_any {W : World} (a b : Addr) (hb : Lies W b) (n : Nat) (E : Value) (hE : ErrAt W a n E) :
    Calls Tryz.prog 128 #[E, .iface 226 (.pointer (some b))] W fun e w' => e = .returned (.bool (decide (a = b))) ∧ W = w' := by
  have tT := Tryz.callTypeOf
  have cT := Tryz.callComparable
  obtain ⟨t, v, rfl⟩ := hE.form
  have HE := Lib.hid hE
  try clear hE
  go_enter Tryz.func128, Tryz.ntmps128
  go_wp2_with (go_at_call 163; refine (is_chain a b hb n _ HE.out).mono ?_; rintro e w' ⟨rfl, rfl⟩)
  go_ret
  exact ⟨rfl, rfl⟩
theorem code_1 {W : World} {ad : Nat → Addr} (h : Sents W ad) (n : Nat) (E : Value) (hE : ErrAt W (ad 1) n E) :
    Calls Tryz.prog 93 #[E] W fun e w' => e = .returned (.int .i64 1) ∧ W = w' := by
  obtain ⟨t, v, rfl⟩ := hE.form
  have HE := Lib.hid hE
  try clear hE
  have c1 := h.s1.1
  go_enter Tryz.func93, Tryz.ntmps93
  go_wp2_with fail
  refine (is_any (ad 1) (ad 1) h.s1.2 n _ HE.out).mono ?_
  rintro e w' ⟨rfl, rfl⟩
  rw [decide_eq_true rfl]
  go_wp2_with fail
  go_ret
  exact ⟨rfl, rfl⟩
theorem code_2 {W : World} {ad : Nat → Addr} (h : Sents W ad) (n : Nat) (E : Value) (hE : ErrAt W (ad 2) n E) :
    Calls Tryz.prog 93 #[E] W fun e w' => e = .returned (.int .i64 2) ∧ W = w' := by
  obtain ⟨t, v, rfl⟩ := hE.form
  have HE := Lib.hid hE
  try clear hE
  have c1 := h.s1.1
  have c2 := h.s2.1
  have d1 := h.ne (i := 2) (j := 1) (by omega) (by omega) (by omega)
  go_enter Tryz.func93, Tryz.ntmps93
  go_wp2_with fail
  refine (is_any (ad 2) (ad 1) h.s1.2 n _ HE.out).mono ?_
  rintro e w' ⟨rfl, rfl⟩
  rw [d1]
  go_wp2_with fail
  refine (is_any (ad 2) (ad 2) h.s2.2 n _ HE.out).mono ?_
  rintro e w' ⟨rfl, rfl⟩
  rw [decide_eq_true rfl]
  go_wp2_with fail
  go_ret
  exact ⟨rfl, rfl⟩
theorem code_3 {W : World} {ad : Nat → Addr} (h : Sents W ad) (n : Nat) (E : Value) (hE : ErrAt W (ad 3) n E) :
    Calls Tryz.prog 93 #[E] W fun e w' => e = .returned (.int .i64 3) ∧ W = w' := by
  obtain ⟨t, v, rfl⟩ := hE.form
  have HE := Lib.hid hE
  try clear hE
  have c1 := h.s1.1
  have c2 := h.s2.1
  have c3 := h.s3.1
  have d1 := h.ne (i := 3) (j := 1) (by omega) (by omega) (by omega)
  have d2 := h.ne (i := 3) (j := 2) (by omega) (by omega) (by omega)
  go_enter Tryz.func93, Tryz.ntmps93
  go_wp2_with fail
  refine (is_any (ad 3) (ad 1) h.s1.2 n _ HE.out).mono ?_
  rintro e w' ⟨rfl, rfl⟩
  rw [d1]
  go_wp2_with fail
  refine (is_any (ad 3) (ad 2) h.s2.2 n _ HE.out).mono ?_
  rintro e w' ⟨rfl, rfl⟩
  rw [d2]
  go_wp2_with fail
  refine (is_any (ad 3) (ad 3) h.s3.2 n _ HE.out).mono ?_
  rintro e w' ⟨rfl, rfl⟩
  rw [decide_eq_true rfl]
  go_wp2_with fail
  go_ret
  exact ⟨rfl, rfl⟩
theorem code_4 {W : World} {ad : Nat → Addr} (h : Sents W ad) (n : Nat) (E : Value) (hE : ErrAt W (ad 4) n E) :
    Calls Tryz.prog 93 #[E] W fun e w' => e = .returned (.int .i64 4) ∧ W = w' := by
  obtain ⟨t, v, rfl⟩ := hE.form
  have HE := Lib.hid hE
  try clear hE
  have c1 := h.s1.1
  have c2 := h.s2.1
  have c3 := h.s3.1
  have c4 := h.s4.1
  have d1 := h.ne (i := 4) (j := 1) (by omega) (by omega) (by omega)
  have d2 := h.ne (i := 4) (j := 2) (by omega) (by omega) (by omega)
  have d3 := h.ne (i := 4) (j := 3) (by omega) (by omega) (by omega)
  go_enter Tryz.func93, Tryz.ntmps93
  go_wp2_with fail
  refine (is_any (ad 4) (ad 1) h.s1.2 n _ HE.out).mono ?_
  rintro e w' ⟨rfl, rfl⟩
  rw [d1]
  go_wp2_with fail
  refine (is_any (ad 4) (ad 2) h.s2.2 n _ HE.out).mono ?_
  rintro e w' ⟨rfl, rfl⟩
  rw [d2]
  go_wp2_with fail
  refine (is_any (ad 4) (ad 3) h.s3.2 n _ HE.out).mono ?_
  rintro e w' ⟨rfl, rfl⟩
  rw [d3]
  go_wp2_with fail
  refine (is_any (ad 4) (ad 4) h.s4.2 n _ HE.out).mono ?_
  rintro e w' ⟨rfl, rfl⟩
  rw [decide_eq_true rfl]
  go_wp2_with fail
  go_ret
  exact ⟨rfl, rfl⟩
theorem code_5 {W : World} {ad : Nat → Addr} (h : Sents W ad) (n : Nat) (E : Value) (hE : ErrAt W (ad 5) n E) :
    Calls Tryz.prog 93 #[E] W fun e w' => e = .returned (.int .i64 5) ∧ W = w' := by
  obtain ⟨t, v, rfl⟩ := hE.form
  have HE := Lib.hid hE
  try clear hE
  have c1 := h.s1.1
  have c2 := h.s2.1
  have c3 := h.s3.1
  have c4 := h.s4.1
  have c5 := h.s5.1
  have d1 := h.ne (i := 5) (j := 1) (by omega) (by omega) (by omega)
  have d2 := h.ne (i := 5) (j := 2) (by omega) (by omega) (by omega)
  have d3 := h.ne (i := 5) (j := 3) (by omega) (by omega) (by omega)
  have d4 := h.ne (i := 5) (j := 4) (by omega) (by omega) (by omega)
  go_enter Tryz.func93, Tryz.ntmps93
  go_wp2_with fail
  refine (is_any (ad 5) (ad 1) h.s1.2 n _ HE.out).mono ?_
  rintro e w' ⟨rfl, rfl⟩
  rw [d1]
  go_wp2_with fail
  refine (is_any (ad 5) (ad 2) h.s2.2 n _ HE.out).mono ?_
  rintro e w' ⟨rfl, rfl⟩
  rw [d2]
  go_wp2_with fail
  refine (is_any (ad 5) (ad 3) h.s3.2 n _ HE.out).mono ?_
  rintro e w' ⟨rfl, rfl⟩
  rw [d3]
  go_wp2_with fail
  refine (is_any (ad 5) (ad 4) h.s4.2 n _ HE.out).mono ?_
  rintro e w' ⟨rfl, rfl⟩
  rw [d4]
  go_wp2_with fail
  refine (is_any (ad 5) (ad 5) h.s5.2 n _ HE.out).mono ?_
  rintro e w' ⟨rfl, rfl⟩
  rw [decide_eq_true rfl]
  go_wp2_with fail
  go_ret
  exact ⟨rfl, rfl⟩
theorem code_6 {W : World} {ad : Nat → Addr} (h : Sents W ad) (n : Nat) (E : Value) (hE : ErrAt W (ad 6) n E) :
    Calls Tryz.prog 93 #[E] W fun e w' => e = .returned (.int .i64 6) ∧ W = w' := by
  obtain ⟨t, v, rfl⟩ := hE.form
  have HE := Lib.hid hE
  try clear hE
  have c1 := h.s1.1
  have c2 := h.s2.1
  have c3 := h.s3.1
  have c4 := h.s4.1
  have c5 := h.s5.1
  have c6 := h.s6.1
  have d1 := h.ne (i := 6) (j := 1) (by omega) (by omega) (by omega)
  have d2 := h.ne (i := 6) (j := 2) (by omega) (by omega) (by omega)
  have d3 := h.ne (i := 6) (j := 3) (by omega) (by omega) (by omega)
  have d4 := h.ne (i := 6) (j := 4) (by omega) (by omega) (by omega)
  have d5 := h.ne (i := 6) (j := 5) (by omega) (by omega) (by omega)
  go_enter Tryz.func93, Tryz.ntmps93
  go_wp2_with fail
  refine (is_any (ad 6) (ad 1) h.s1.2 n _ HE.out).mono ?_
  rintro e w' ⟨rfl, rfl⟩
  rw [d1]
  go_wp2_with fail
  refine (is_any (ad 6) (ad 2) h.s2.2 n _ HE.out).mono ?_
  rintro e w' ⟨rfl, rfl⟩
  rw [d2]
  go_wp2_with fail
  refine (is_any (ad 6) (ad 3) h.s3.2 n _ HE.out).mono ?_
  rintro e w' ⟨rfl, rfl⟩
  rw [d3]
  go_wp2_with fail
  refine (is_any (ad 6) (ad 4) h.s4.2 n _ HE.out).mono ?_
  rintro e w' ⟨rfl, rfl⟩
  rw [d4]
  go_wp2_with fail
  refine (is_any (ad 6) (ad 5) h.s5.2 n _ HE.out).mono ?_
  rintro e w' ⟨rfl, rfl⟩
  rw [d5]
  go_wp2_with fail
  refine (is_any (ad 6) (ad 6) h.s6.2 n _ HE.out).mono ?_
  rintro e w' ⟨rfl, rfl⟩
  rw [decide_eq_true rfl]
  go_wp2_with fail
  go_ret
  exact ⟨rfl, rfl⟩
theorem code_7 {W : World} {ad : Nat → Addr} (h : Sents W ad) (n : Nat) (E : Value) (hE : ErrAt W (ad 7) n E) :
    Calls Tryz.prog 93 #[E] W fun e w' => e = .returned (.int .i64 7) ∧ W = w' := by
  obtain ⟨t, v, rfl⟩ := hE.form
  have HE := Lib.hid hE
  try clear hE
  have c1 := h.s1.1
  have c2 := h.s2.1
  have c3 := h.s3.1
  have c4 := h.s4.1
  have c5 := h.s5.1
  have c6 := h.s6.1
  have c7 := h.s7.1
  have d1 := h.ne (i := 7) (j := 1) (by omega) (by omega) (by omega)
  have d2 := h.ne (i := 7) (j := 2) (by omega) (by omega) (by omega)
  have d3 := h.ne (i := 7) (j := 3) (by omega) (by omega) (by omega)
  have d4 := h.ne (i := 7) (j := 4) (by omega) (by omega) (by omega)
  have d5 := h.ne (i := 7) (j := 5) (by omega) (by omega) (by omega)
  have d6 := h.ne (i := 7) (j := 6) (by omega) (by omega) (by omega)
  go_enter Tryz.func93, Tryz.ntmps93
  go_wp2_with fail
  refine (is_any (ad 7) (ad 1) h.s1.2 n _ HE.out).mono ?_
  rintro e w' ⟨rfl, rfl⟩
  rw [d1]
  go_wp2_with fail
  refine (is_any (ad 7) (ad 2) h.s2.2 n _ HE.out).mono ?_
  rintro e w' ⟨rfl, rfl⟩
  rw [d2]
  go_wp2_with fail
  refine (is_any (ad 7) (ad 3) h.s3.2 n _ HE.out).mono ?_
  rintro e w' ⟨rfl, rfl⟩
  rw [d3]
  go_wp2_with fail
  refine (is_any (ad 7) (ad 4) h.s4.2 n _ HE.out).mono ?_
  rintro e w' ⟨rfl, rfl⟩
  rw [d4]
  go_wp2_with fail
  refine (is_any (ad 7) (ad 5) h.s5.2 n _ HE.out).mono ?_
  rintro e w' ⟨rfl, rfl⟩
  rw [d5]
  go_wp2_with fail
  refine (is_any (ad 7) (ad 6) h.s6.2 n _ HE.out).mono ?_
  rintro e w' ⟨rfl, rfl⟩
  rw [d6]
  go_wp2_with fail
  refine (is_any (ad 7) (ad 7) h.s7.2 n _ HE.out).mono ?_
  rintro e w' ⟨rfl, rfl⟩
  rw [decide_eq_true rfl]
  go_wp2_with fail
  go_ret
  exact ⟨rfl, rfl⟩
theorem code_8 {W : World} {ad : Nat → Addr} (h : Sents W ad) (n : Nat) (E : Value) (hE : ErrAt W (ad 8) n E) :
    Calls Tryz.prog 93 #[E] W fun e w' => e = .returned (.int .i64 8) ∧ W = w' := by
  obtain ⟨t, v, rfl⟩ := hE.form
  have HE := Lib.hid hE
  try clear hE
  have c1 := h.s1.1
  have c2 := h.s2.1
  have c3 := h.s3.1
  have c4 := h.s4.1
  have c5 := h.s5.1
  have c6 := h.s6.1
  have c7 := h.s7.1
  have c8 := h.s8.1
  have d1 := h.ne (i := 8) (j := 1) (by omega) (by omega) (by omega)
  have d2 := h.ne (i := 8) (j := 2) (by omega) (by omega) (by omega)
  have d3 := h.ne (i := 8) (j := 3) (by omega) (by omega) (by omega)
  have d4 := h.ne (i := 8) (j := 4) (by omega) (by omega) (by omega)
  have d5 := h.ne (i := 8) (j := 5) (by omega) (by omega) (by omega)
  have d6 := h.ne (i := 8) (j := 6) (by omega) (by omega) (by omega)
  have d7 := h.ne (i := 8) (j := 7) (by omega) (by omega) (by omega)
  go_enter Tryz.func93, Tryz.ntmps93
  go_wp2_with fail
  refine (is_any (ad 8) (ad 1) h.s1.2 n _ HE.out).mono ?_
  rintro e w' ⟨rfl, rfl⟩
  rw [d1]
  go_wp2_with fail
  refine (is_any (ad 8) (ad 2) h.s2.2 n _ HE.out).mono ?_
  rintro e w' ⟨rfl, rfl⟩
  rw [d2]
  go_wp2_with fail
  refine (is_any (ad 8) (ad 3) h.s3.2 n _ HE.out).mono ?_
  rintro e w' ⟨rfl, rfl⟩
  rw [d3]
  go_wp2_with fail
  refine (is_any (ad 8) (ad 4) h.s4.2 n _ HE.out).mono ?_
  rintro e w' ⟨rfl, rfl⟩
  rw [d4]
  go_wp2_with fail
  refine (is_any (ad 8) (ad 5) h.s5.2 n _ HE.out).mono ?_
  rintro e w' ⟨rfl, rfl⟩
  rw [d5]
  go_wp2_with fail
  refine (is_any (ad 8) (ad 6) h.s6.2 n _ HE.out).mono ?_
  rintro e w' ⟨rfl, rfl⟩
  rw [d6]
  go_wp2_with fail
  refine (is_any (ad 8) (ad 7) h.s7.2 n _ HE.out).mono ?_
  rintro e w' ⟨rfl, rfl⟩
  rw [d7]
  go_wp2_with fail
  refine (is_any (ad 8) (ad 8) h.s8.2 n _ HE.out).mono ?_
  rintro e w' ⟨rfl, rfl⟩
  rw [decide_eq_true rfl]
  go_wp2_with fail
  go_ret
  exact ⟨rfl, rfl⟩
theorem code_9 {W : World} {ad : Nat → Addr} (h : Sents W ad) (n : Nat) (E : Value) (hE : ErrAt W (ad 9) n E) :
    Calls Tryz.prog 93 #[E] W fun e w' => e = .returned (.int .i64 9) ∧ W = w' := by
  obtain ⟨t, v, rfl⟩ := hE.form
  have HE := Lib.hid hE
  try clear hE
  have c1 := h.s1.1
  have c2 := h.s2.1
  have c3 := h.s3.1
  have c4 := h.s4.1
  have c5 := h.s5.1
  have c6 := h.s6.1
  have c7 := h.s7.1
  have c8 := h.s8.1
  have c9 := h.s9.1
  have d1 := h.ne (i := 9) (j := 1) (by omega) (by omega) (by omega)
  have d2 := h.ne (i := 9) (j := 2) (by omega) (by omega) (by omega)
  have d3 := h.ne (i := 9) (j := 3) (by omega) (by omega) (by omega)
  have d4 := h.ne (i := 9) (j := 4) (by omega) (by omega) (by omega)
  have d5 := h.ne (i := 9) (j := 5) (by omega) (by omega) (by omega)
  have d6 := h.ne (i := 9) (j := 6) (by omega) (by omega) (by omega)
  have d7 := h.ne (i := 9) (j := 7) (by omega) (by omega) (by omega)
  have d8 := h.ne (i := 9) (j := 8) (by omega) (by omega) (by omega)
  go_enter Tryz.func93, Tryz.ntmps93
  go_wp2_with fail
  refine (is_any (ad 9) (ad 1) h.s1.2 n _ HE.out).mono ?_
  rintro e w' ⟨rfl, rfl⟩
  rw [d1]
  go_wp2_with fail
  refine (is_any (ad 9) (ad 2) h.s2.2 n _ HE.out).mono ?_
  rintro e w' ⟨rfl, rfl⟩
  rw [d2]
  go_wp2_with fail
  refine (is_any (ad 9) (ad 3) h.s3.2 n _ HE.out).mono ?_
  rintro e w' ⟨rfl, rfl⟩
  rw [d3]
  go_wp2_with fail
  refine (is_any (ad 9) (ad 4) h.s4.2 n _ HE.out).mono ?_
  rintro e w' ⟨rfl, rfl⟩
  rw [d4]
  go_wp2_with fail
  refine (is_any (ad 9) (ad 5) h.s5.2 n _ HE.out).mono ?_
  rintro e w' ⟨rfl, rfl⟩
  rw [d5]
  go_wp2_with fail
  refine (is_any (ad 9) (ad 6) h.s6.2 n _ HE.out).mono ?_
  rintro e w' ⟨rfl, rfl⟩
  rw [d6]
  go_wp2_with fail
  refine (is_any (ad 9) (ad 7) h.s7.2 n _ HE.out).mono ?_
  rintro e w' ⟨rfl, rfl⟩
  rw [d7]
  go_wp2_with fail
  refine (is_any (ad 9) (ad 8) h.s8.2 n _ HE.out).mono ?_
  rintro e w' ⟨rfl, rfl⟩
  rw [d8]
  go_wp2_with fail
  refine (is_any (ad 9) (ad 9) h.s9.2 n _ HE.out).mono ?_
  rintro e w' ⟨rfl, rfl⟩
  rw [decide_eq_true rfl]
  go_wp2_with fail
  go_ret
  exact ⟨rfl, rfl⟩
theorem code_any {W : World} {ad : Nat → Addr} (h : Sents W ad) (k : Nat) (hk : 1 ≤ k ∧ k ≤ 9) (n : Nat) (E : Value) (hE : ErrAt W (ad k) n E) :
    Calls Tryz.prog 93 #[E] W fun e w' => e = .returned (.int .i64 k) ∧ W = w' := by
  obtain rfl | rfl | rfl | rfl | rfl | rfl | rfl | rfl | rfl : k = 1 ∨ k = 2 ∨ k = 3 ∨ k = 4 ∨ k = 5 ∨ k = 6 ∨ k = 7 ∨ k = 8 ∨ k = 9 := by omega
  · exact code_1 h n E hE
  · exact code_2 h n E hE
  · exact code_3 h n E hE
  · exact code_4 h n E hE
  · exact code_5 h n E hE
  · exact code_6 h n E hE
  · exact code_7 h n E hE
  · exact code_8 h n E hE
  · exact code_9 h n E hE
end Go.Proofs.YthffdneigmbgfaaGreatDoor
set_option linter.unusedSimpArgs false
namespace Go.Proofs.YthffdneigmbgfaaGreatDoor
open Go.RowKit
set_option maxRecDepth 100000
set_option maxHeartbeats 1000000
attribute [local go_sem_proc ↓] reduceIte
attribute [local go_sem_proc] reduceCtorEq Nat.reduceBEq Nat.reduceAdd Nat.reduceSub Nat.reduceEqDiff Nat.reduceLT Nat.reduceLeDiff Nat.reduceMul Int.reduceToNat Int.reduceBEq Int.reduceBNe Int.reduceEq Int.reduceLT Int.reduceLE
attribute [local go_sem] ev_clear ev_makeFunc funcRd firstRd litsOf evClear List.isEmpty_cons Array.isEmpty_iff ev_makeMap ev_lookup ev_mapUpdate ev_mapEntry ev_entryStore evMapEntry evEntryStore ev_delete evMakeMap evLookup evMapUpdate evDelete pureOf keyCmp mfind oneCells Rd.map AV.bare AV.bare.bareL AV.ofVal resRd resOne resAll HoldF HoldR Takes thenA blockA ev_move ev_assign ev_pick ev_alloc ev_box ev_build ev_buildSlice ev_load ev_store ev_binOp ev_unOp ev_convert ev_iface ev_make ev_slice ev_fieldAddr ev_field ev_indexAddr ev_index ev_extract ev_len ev_append ev_min ev_max evMin evMax gt_tmp gt_int gt_bool gt_str gt_nilS gt_nilP gt_nilI pickRd allocRd buildRd sliceRd loadRd unRd ifaceRd exRd val optRd callRd seen AV.plain AV.soft adopt fzArgs Rd.run AV.asCells newBox runL Comes' Rd.row Rd.bind Out.app apps Eff.app St.renew St.setRow St.show St.put St.init upd evStore evBinR evBin eqFs eqCell evConv evSeq evLen evIndexAddr evFieldAddr evField evIndex bound evSlice evSliceF evAppend evMake loadOf fillAV fillEs fzParts fz fzCell fzCells shows isConstOp splice wrs wes Value.oneCell' List.getD_cons_zero List.getD_cons_succ List.getD_nil List.length_cons List.length_nil List.map_cons List.map_nil List.nil_append List.cons_append List.all_cons List.all_nil List.getElem?_cons_zero List.getElem?_cons_succ List.set_cons_zero List.set_cons_succ List.take_succ_cons List.take_zero List.drop_succ_cons List.drop_zero List.take_nil List.drop_nil List.replicate_succ List.replicate_zero Bool.and_true Bool.true_and Bool.and_self and_self true_and and_true Nat.zero_add Nat.add_zero Option.some.injEq Nat.zero_lt_succ Bool.not_true Bool.not_false ne_eq not_true_eq_false not_false_eq_true Option.map_some Option.map_none List.toList_toArray head headF headR List.length_map Int.toNat_natCast Int.natCast_nonneg List.getElem?_map decide_true decide_false Bool.false_eq_true if_true if_false Bool.or_self Bool.or_true Bool.true_or Bool.false_or Bool.or_false Bool.and_false Bool.false_and List.flatten_cons List.flatten_nil List.append_nil nat0 or_self or_false false_or or_true true_or and_false false_and List.length_append List.isEmpty_nil bne_self_eq_false beq_self_eq_true fits_small strL_l bytesOf_map wants Int.cast_ofNat_Int gt_iff_lt ge_iff_le
attribute [local go_sem ←] List.map_drop List.map_take
/-! Weaker values -/
def sentAt (ad : Nat → Addr) (g : Nat) : Option AV :=
  if g = 2 then some (sentV (ad 1)) else
  if g = 1 then some (sentV (ad 2)) else
  if g = 3 then some (sentV (ad 3)) else
  if g = 4 then some (sentV (ad 4)) else
  if g = 5 then some (sentV (ad 5)) else
  if g = 6 then some (sentV (ad 6)) else
  if g = 0 then some (sentV (ad 7)) else
  if g = 7 then some (sentV (ad 8)) else
  if g = 8 then some (sentV (ad 9)) else none
def errEnv (ad : Nat → Addr) (mo : More) : Env := ⟨sentAt ad, fun w => Sents w ad ∧ mo.inv w, fun w w' h hb => ⟨h.1.below hb, mo.up w w' h.2 hb⟩⟩
theorem errEnv_ok {ad : Nat → Addr} {mo : More} {w : World} (h : Sents w ad) (hm : mo.inv w) : EnvOk (errEnv ad mo) (fun b _ => b < w.heap.size) w := by
  refine ⟨⟨h, hm⟩, fun b o hb => hb, fun g c hg => ?_⟩
  have one : ∀ {g : Nat} {a : Addr}, Sent w g a → ∃ u, w.cell? ⟨g, 0, none⟩ = some u ∧ u.oneCell' = true ∧ g < w.heap.size ∧ RV (fun b _ => b < w.heap.size) w u (sentV a) := fun hs => ⟨_, hs.1, rfl, cell_lt hs.1, .lit _⟩
  have hg : sentAt ad g = some c := hg
  unfold sentAt at hg
  split at hg
  · rename_i e; subst e; cases hg; exact one h.s1
  split at hg
  · rename_i e; subst e; cases hg; exact one h.s2
  split at hg
  · rename_i e; subst e; cases hg; exact one h.s3
  split at hg
  · rename_i e; subst e; cases hg; exact one h.s4
  split at hg
  · rename_i e; subst e; cases hg; exact one h.s5
  split at hg
  · rename_i e; subst e; cases hg; exact one h.s6
  split at hg
  · rename_i e; subst e; cases hg; exact one h.s7
  split at hg
  · rename_i e; subst e; cases hg; exact one h.s8
  split at hg
  · rename_i e; subst e; cases hg; exact one h.s9
  cases hg
section
variable {ad : Nat → Addr} {mo : More} {f : Nat → AV}
end
/-! fault.Code -/
theorem err_at {S : Nat → Nat → Prop} {w : World} {v : Value} {p : AV} {a : Addr} (h : RV S w v (.iface 124 (.ref 3 [[.any, p, sentV a]] 0 0))) (ha : Lies w a) : ErrAt w a 1 v := by
  cases h with
  | iface t v c h =>
    cases h with
    | ref sz es i off b o u hz hc hr =>
      have h2 := hc 0 2 (sentV a) rfl
      have h3 := (hr 0 2 (sentV a) rfl).lit_inv
      refine ⟨b, o + (0 * 3 + 0), u 0 2, rfl, ?_, h3, ha⟩
      have := h2.2.1
      simpa using this
theorem sents_lies {w : World} {ad : Nat → Addr} (h : Sents w ad) (k : Nat) (hk : 1 ≤ k ∧ k ≤ 9) : Lies w (ad k) := by
  obtain rfl | rfl | rfl | rfl | rfl | rfl | rfl | rfl | rfl : k = 1 ∨ k = 2 ∨ k = 3 ∨ k = 4 ∨ k = 5 ∨ k = 6 ∨ k = 7 ∨ k = 8 ∨ k = 9 := by omega
  · exact h.s1.2
  · exact h.s2.2
  · exact h.s3.2
  · exact h.s4.2
  · exact h.s5.2
  · exact h.s6.2
  · exact h.s7.2
  · exact h.s8.2
  · exact h.s9.2
theorem code_con (ad : Nat → Addr) (mo : More) (k : Nat) (hk : 1 ≤ k ∧ k ≤ 9) (p : AV) : Con Tryz.prog (errEnv ad mo) 93 [.iface 124 (.ref 3 [[.any, p, sentV (ad k)]] 0 0)] (I k) :=
  con_lit Tryz.call93 fun w S vs hE hl hv => by
    match vs, hl with
    | [v], _ =>
      have hS : Sents w ad := hE.inv.1
      refine (code_any hS k hk 1 v (err_at (hv 0 v _ rfl rfl) (sents_lies hS k hk))).mono ?_
      rintro e w' ⟨rfl, rfl⟩
      exact ⟨rfl, Below.refl _ _⟩
end Go.Proofs.YthffdneigmbgfaaGreatDoor
namespace Go.Proofs.YthffdneigmbgfaaGreatDoor
open Go.RowKit Go.ChangeShapes
section
variable {P : Program} {W : World} {nm : String} {ti tp te ts : TypeId} {ms : Array (String × TypeId)} {f : Field}
end
section
open Go.WideShapes
variable {H : Type} {enc : TypeId × Value → H} {P : Program}
end
section
open Go.WideShapes
variable {H : Type} {enc : TypeId × Value → H} {P : Program} {w : World} {base : Nat} {spare : Nat → Bool} {held : Bool}
end
theorem sents_of_nine {W : World} (h : laidMetH Tryz.prog [("scrinium/api.ErrForm", Rows.laid_scrinium_api_ErrForm), ("scrinium/api.ErrRange", Rows.laid_scrinium_api_ErrRange), ("scrinium/api.ErrFull", Rows.laid_scrinium_api_ErrFull), ("scrinium/api.ErrNone", Rows.laid_scrinium_api_ErrNone), ("scrinium/api.ErrCorrupt", Rows.laid_scrinium_api_ErrCorrupt), ("scrinium/api.ErrFuel", Rows.laid_scrinium_api_ErrFuel), ("scrinium/api.ErrState", Rows.laid_scrinium_api_ErrState), ("scrinium/api.ErrLong", Rows.laid_scrinium_api_ErrLong), ("scrinium/api.ErrTwice", Rows.laid_scrinium_api_ErrTwice)] W) : ∃ ad, Sents W ad := by
  rw [MakeChecks.laidMetH_plain _ _ _ (by kernel_rfl)] at h
  obtain ⟨ps, hv, hnd, hrows⟩ := h
  obtain ⟨adl, h1, h2, h3⟩ := laid_list (nm := "*errors.errorString") Tryz.underlying55 Tryz.row160 Tryz.underlying226 Tryz.underlying246 rfl rfl Tryz.underlying9 (by kernel_rfl) (by kernel_rfl)
    [("scrinium/api.ErrForm", [102, 111, 114, 109]), ("scrinium/api.ErrRange", [114, 97, 110, 103, 101]), ("scrinium/api.ErrFull", [102, 117, 108, 108]), ("scrinium/api.ErrNone", [110, 111, 110, 101]), ("scrinium/api.ErrCorrupt", [99, 111, 114, 114, 117, 112, 116]), ("scrinium/api.ErrFuel", [102, 117, 101, 108]), ("scrinium/api.ErrState", [115, 116, 97, 116, 101]), ("scrinium/api.ErrLong", [108, 111, 110, 103]), ("scrinium/api.ErrTwice", [116, 119, 105, 99, 101])] [2, 1, 3, 4, 5, 6, 0, 7, 8] ps hv (by kernel_rfl) (by
      intro g hg
      simp at hg
      rcases hg with rfl | rfl | rfl | rfl | rfl | rfl | rfl | rfl | rfl <;> kernel_rfl) hrows
  have hnd' := List.Nodup.sublist h3 hnd
  match adl, h1 with
  | [a1, a2, a3, a4, a5, a6, a7, a8, a9], _ =>
    refine ⟨fun i => [a1, a2, a3, a4, a5, a6, a7, a8, a9].getD (i - 1) a1, h2 0 _ _ rfl rfl, h2 1 _ _ rfl rfl, h2 2 _ _ rfl rfl, h2 3 _ _ rfl rfl, h2 4 _ _ rfl rfl, h2 5 _ _ rfl rfl, h2 6 _ _ rfl rfl, h2 7 _ _ rfl rfl, h2 8 _ _ rfl rfl, ?_⟩
    intro i j hi hi' hj hj' e
    have hinj : ∀ x y, x < 9 → y < 9 → [a1, a2, a3, a4, a5, a6, a7, a8, a9].getD x a1 = [a1, a2, a3, a4, a5, a6, a7, a8, a9].getD y a1 → x = y := by
      intro x y hx hy e
      generalize hl : [a1, a2, a3, a4, a5, a6, a7, a8, a9] = l at *
      have hlen : l.length = 9 := by rw [← hl]; rfl
      have ex : l.getD x a1 = l[x]'(by omega) := by simp [List.getD, List.getElem?_eq_getElem (show x < l.length by omega)]
      have ey : l.getD y a1 = l[y]'(by omega) := by simp [List.getD, List.getElem?_eq_getElem (show y < l.length by omega)]
      rw [ex, ey] at e
      have := (List.getElem_inj hnd' (i := x) (j := y) (h₀ := by simp; omega) (h₁ := by simp; omega)).1 (by simp only [List.getElem_map]; rw [e])
      exact this
    have := hinj (i - 1) (j - 1) (by omega) (by omega) e
    omega
end Go.Proofs.YthffdneigmbgfaaGreatDoor
namespace Go.Proofs.YthffdneigmbgfaaGreatDoor
open Go.RowKit
theorem prod_ge {g : Nat → Nat} : ∀ {ks : List Nat} {k : Nat}, (∀ k ∈ ks, 1 ≤ g k) → k ∈ ks → g k ≤ prodN g ks
  | x :: ks, k, hg, h => by
    simp only [prodN]
    have hp := prod_pos fun y hy => hg y (List.mem_cons_of_mem x hy)
    have hx := hg x (by simp)
    rcases List.mem_cons.1 h with rfl | h
    · exact Nat.le_mul_of_pos_right _ hp
    · have := prod_ge (g := g) (fun y hy => hg y (List.mem_cons_of_mem x hy)) h
      exact Nat.le_trans this (Nat.le_mul_of_pos_left _ hx)
/-! The n-th ones -/
def parD (m : Nat → Nat) : List Nat → Nat → List (Nat × Nat) × Nat
  | [], n => ([], n)
  | k :: ks, n => ((k, (parD m ks n).2 % m k) :: (parD m ks n).1, (parD m ks n).2 / m k)
theorem parD_quot (m : Nat → Nat) : ∀ (ks : List Nat) (n : Nat), (parD m ks n).2 = n / prodN m ks
  | [], n => by simp [parD, prodN]
  | k :: ks, n => by
    simp only [parD, prodN]
    rw [parD_quot m ks n, Nat.div_div_eq_div_mul, Nat.mul_comm]
theorem parD_at (m : Nat → Nat) : ∀ {ks : List Nat} {n j k : Nat}, ks[j]? = some k → (parD m ks n).1[j]? = some (k, n / prodN m (ks.drop (j + 1)) % m k)
  | x :: ks, n, 0, k, h => by
    cases h
    simp only [parD, List.getElem?_cons_zero, List.drop_succ_cons, List.drop_zero]
    rw [parD_quot]
  | x :: ks, n, j + 1, k, h => by
    simp only [parD, List.getElem?_cons_succ, List.drop_succ_cons] at h ⊢
    exact parD_at m h
theorem parD_len (m : Nat → Nat) : ∀ (ks : List Nat) (n : Nat), (parD m ks n).1.length = ks.length
  | [], _ => rfl
  | k :: ks, n => by simp only [parD, List.length_cons, parD_len m ks n]
theorem parD_mem (m : Nat → Nat) {n : Nat} : ∀ {ks : List Nat} {p : Nat × Nat}, (∀ k ∈ ks, 1 ≤ m k) → p ∈ (parD m ks n).1 → p.1 ∈ ks ∧ p.2 < m p.1
  | k :: ks, p, hm, h => by
    simp only [parD, List.mem_cons] at h
    rcases h with rfl | h
    · exact ⟨by simp, Nat.mod_lt _ (hm k (by simp))⟩
    · obtain ⟨h1, h2⟩ := parD_mem m (fun x hx => hm x (List.mem_cons_of_mem _ hx)) h
      exact ⟨List.mem_cons_of_mem _ h1, h2⟩
theorem parD_has (m : Nat → Nat) (n : Nat) : ∀ {ks : List Nat} {k : Nat}, k ∈ ks → ∃ d, (k, d) ∈ (parD m ks n).1
  | x :: ks, k, h => by
    simp only [parD]
    rcases List.mem_cons.1 h with rfl | h
    · exact ⟨_, List.mem_cons_self⟩
    · obtain ⟨d, hd⟩ := parD_has m n h
      exact ⟨d, List.mem_cons_of_mem _ hd⟩
theorem parD_fst (m : Nat → Nat) (n : Nat) : ∀ (ks : List Nat), (parD m ks n).1.map Prod.fst = ks
  | [] => rfl
  | k :: ks => by simp only [parD, List.map_cons, parD_fst m n ks]
def seqD (m : Nat → Nat) : List Nat → Nat → Option (Nat × Nat)
  | [], _ => none
  | k :: ks, n => if n < m k then some (k, n) else seqD m ks (n - m k)
theorem seqD_some (m : Nat → Nat) : ∀ {ks : List Nat} {n : Nat}, n < sumN m ks → ∃ k d, seqD m ks n = some (k, d) ∧ k ∈ ks ∧ d < m k
  | k :: ks, n, h => by
    simp only [seqD, sumN] at h ⊢
    split
    · rename_i e
      exact ⟨k, n, rfl, by simp, e⟩
    · obtain ⟨x, d, h1, h2, h3⟩ := seqD_some m (ks := ks) (n := n - m k) (by omega)
      exact ⟨x, d, h1, List.mem_cons_of_mem _ h2, h3⟩
def nthF (c : ChD) : Nat → Int → Nat → List Nat
  | 0, _, _ => []
  | f + 1, i, n => if parB c i = true then (parD (fun k => cntN c k) (kidsL c i true) n).1.flatMap (fun p => p.1 :: nthF c f p.1 p.2) else
    match seqD (fun k => cntN c k) (kidsL c i true) n with
    | some p => p.1 :: nthF c f p.1 p.2
    | none => []
def nthR (c : ChD) : Nat → Int → Nat → List Nat
  | 0, _, _ => []
  | f + 1, i, n => if parB c i = true then (parD (fun k => cntN c k) (kidsL c i true) n).1.reverse.flatMap (fun p => p.1 :: nthR c f p.1 p.2) else
    match seqD (fun k => cntN c k) (kidsL c i true) n with
    | some p => p.1 :: nthR c f p.1 p.2
    | none => []
theorem nthR_mem {c : ChD} : ∀ (f : Nat) (i : Int) (n x : Nat), x ∈ nthR c f i n ↔ x ∈ nthF c f i n
  | 0, _, _, _ => Iff.rfl
  | f + 1, i, n, x => by
    unfold nthR nthF
    split
    · simp only [List.mem_flatMap, List.mem_reverse, List.mem_cons, nthR_mem f]
    · split
      · simp only [List.mem_cons, nthR_mem f]
      · rfl
theorem nthR_len {c : ChD} : ∀ (f : Nat) (i : Int) (n : Nat), (nthR c f i n).length = (nthF c f i n).length
  | 0, _, _ => rfl
  | f + 1, i, n => by
    unfold nthR nthF
    split
    · simp only [List.length_flatMap, List.length_cons, nthR_len f, List.map_reverse, List.sum_reverse]
    · split
      · simp only [List.length_cons, nthR_len f]
      · rfl
end Go.Proofs.YthffdneigmbgfaaGreatDoor
namespace Go.Proofs.YthffdneigmbgfaaGreatDoor
open Go.RowKit
def kidsOk (c : ChD) (l : List Nat) (x : Int) : Prop := if parB c x = true then ∀ j ∈ kidsL c x true, j ∈ l else kidsL c x true = [] ∨ ∃ j ∈ kidsL c x true, ∀ y ∈ kidsL c x true, (y ∈ l ↔ y = j)
theorem kidsOk_same {c : ChD} {l l' : List Nat} {x : Int} (h : ∀ j ∈ kidsL c x true, (j ∈ l' ↔ j ∈ l)) (hk : kidsOk c l x) : kidsOk c l' x := by
  unfold kidsOk at hk ⊢
  split at hk
  · rename_i e
    rw [if_pos e]
    exact fun j hj => (h j hj).2 (hk j hj)
  · rename_i e
    rw [if_neg e]
    rcases hk with hk | ⟨j, hj, hk⟩
    · exact .inl hk
    · exact .inr ⟨j, hj, fun y hy => (h y hy).trans (hk y hy)⟩
structure Nth (c : ChD) (i : Int) (l : List Nat) : Prop where
  real : ∀ x ∈ l, i ∈ upL c x ∧ ∃ s, c.states[x]? = some s ∧ memyB s = false ∧ (s.parent = i ∨ ∃ p ∈ l, s.parent = ((p : Nat) : Int))
  ok : ∀ x ∈ l, kidsOk c l x
  top : kidsOk c l i
  nodup : l.Nodup
theorem fst_one {p q : Nat × Nat} : ∀ {ps : List (Nat × Nat)}, (ps.map Prod.fst).Nodup → p ∈ ps → q ∈ ps → p.1 = q.1 → p = q
  | x :: ps, hn, hp, hq, e => by
    rw [List.map_cons, List.nodup_cons] at hn
    rcases List.mem_cons.1 hp with e1 | hp1
    · rcases List.mem_cons.1 hq with e2 | hq1
      · rw [e1, e2]
      · rw [← e1, e] at hn
        exact absurd (List.mem_map.2 ⟨q, hq1, rfl⟩) hn.1
    · rcases List.mem_cons.1 hq with e2 | hq1
      · rw [← e2, ← e] at hn
        exact absurd (List.mem_map.2 ⟨p, hp1, rfl⟩) hn.1
      · exact fst_one hn.2 hp1 hq1 e
theorem nth_join {c : ChD} (h : Right c) {i : Int} {ps : List (Nat × Nat)} {g : Nat × Nat → List Nat} (hk : ∀ p ∈ ps, p.1 ∈ kidsL c i true ∧ Nth c p.1 (g p)) (hn : (ps.map Prod.fst).Nodup)
    (ht : if parB c i = true then ∀ j ∈ kidsL c i true, ∃ d, (j, d) ∈ ps else kidsL c i true = [] ∨ ∃ p, ps = [p]) : Nth c i (ps.flatMap fun p => p.1 :: g p) := by
  have mem : ∀ {x : Nat}, x ∈ (ps.flatMap fun p => p.1 :: g p) ↔ ∃ p ∈ ps, x = p.1 ∨ x ∈ g p := fun {x} => by simp only [List.mem_flatMap, List.mem_cons]
  have kid : ∀ p ∈ ps, i < (p.1 : Int) ∧ p.1 < c.states.length ∧ parZ c p.1 = i ∧ i ∈ upL c p.1 := fun p hp => by
    have hr := (kid_real (hk p hp).1).1
    have hg := kid_gt h hr
    have hpz := (kid_iff.1 hr).2
    exact ⟨hg.1, hg.2, hpz, (up_mem h (inZ_nat.2 hg.2)).2 (.inl hpz.symm)⟩
  have len : ∀ p ∈ ps, ∀ x ∈ g p, x < c.states.length ∧ (p.1 : Int) ∈ upL c x ∧ p.1 < x := fun p hp x hx => by
    obtain ⟨h1, s, h2, _⟩ := (hk p hp).2.real x hx
    have := up_lt h 40 _ _ h1
    exact ⟨(List.getElem?_eq_some_iff.1 h2).1, h1, by omega⟩
  have loc : ∀ p ∈ ps, ∀ x, (x = p.1 ∨ x ∈ g p) → ∀ y ∈ kidsL c x true, (y ∈ (ps.flatMap fun p => p.1 :: g p) ↔ y ∈ g p) := fun p hp x hx y hy => by
    have hyr := (kid_real hy).1
    have hyg := kid_gt h hyr
    have hyp := (kid_iff.1 hyr).2
    have kp := kid p hp
    rw [mem]
    refine ⟨?_, fun e => ⟨p, hp, .inr e⟩⟩
    have hpy : (p.1 : Int) ∈ upL c y := by
      rcases hx with rfl | hx
      · exact (up_mem h (inZ_nat.2 hyg.2)).2 (.inl hyp.symm)
      · exact (up_mem h (inZ_nat.2 hyg.2)).2 (.inr (by rw [hyp]; exact (len p hp x hx).2.1))
    rintro ⟨q, hq, rfl | e⟩
    · have := (kid q hq).2.2.1
      have := up_lt h 40 _ _ hpy
      rcases hx with rfl | hx
      · omega
      · have := len p hp x hx
        omega
    · have := kid_one h (kid_real (hk p hp).1).1 (kid_real (hk q hq).1).1 (y + 1) y (by omega) hyg.2 (.inr hpy) (.inr (len q hq y e).2.1)
      rw [fst_one hn hp hq this]
      exact e
  have topm : ∀ y ∈ kidsL c i true, (y ∈ (ps.flatMap fun p => p.1 :: g p) ↔ ∃ d, (y, d) ∈ ps) := fun y hy => by
    have hyr := (kid_real hy).1
    have hyg := kid_gt h hyr
    have hyp := (kid_iff.1 hyr).2
    rw [mem]
    refine ⟨?_, fun ⟨d, e⟩ => ⟨_, e, .inl rfl⟩⟩
    rintro ⟨q, hq, rfl | e⟩
    · exact ⟨q.2, hq⟩
    · have h1 := (up_mem h (inZ_nat.2 hyg.2)).1 (len q hq y e).2.1
      have kq := kid q hq
      rcases h1 with h1 | h1
      · omega
      · rw [hyp] at h1
        have := up_lt h 40 _ _ h1
        omega
  refine ⟨fun x hx => ?_, fun x hx => ?_, ?_, ?_⟩
  · obtain ⟨p, hp, e⟩ := mem.1 hx
    have kp := kid p hp
    rcases e with rfl | e
    · obtain ⟨_, s, h1, h2⟩ := kid_real (hk p hp).1
      exact ⟨kp.2.2.2, s, h1, h2, .inl (by rw [← par_nat h1]; exact kp.2.2.1)⟩
    · obtain ⟨h1, s, h2, h3, h4⟩ := (hk p hp).2.real x e
      refine ⟨up_trans h (x + 1) x p.1 i (by omega) h1 kp.2.2.2, s, h2, h3, .inr ?_⟩
      rcases h4 with h4 | ⟨q, h4, h5⟩
      · exact ⟨p.1, mem.2 ⟨p, hp, .inl rfl⟩, h4⟩
      · exact ⟨q, mem.2 ⟨p, hp, .inr h4⟩, h5⟩
  · obtain ⟨p, hp, e⟩ := mem.1 hx
    refine kidsOk_same (loc p hp x e) ?_
    rcases e with rfl | e
    · exact (hk p hp).2.top
    · exact (hk p hp).2.ok x e
  · unfold kidsOk
    split at ht
    · rename_i e
      rw [if_pos e]
      exact fun j hj => (topm j hj).2 (ht j hj)
    · rename_i e
      rw [if_neg e]
      rcases ht with ht | ⟨p, ht⟩
      · exact .inl ht
      · refine .inr ⟨p.1, (hk p (by rw [ht]; simp)).1, fun y hy => (topm y hy).trans ?_⟩
        rw [ht]
        simp only [List.mem_singleton]
        exact ⟨fun ⟨d, e⟩ => by rw [← e], fun e => ⟨p.2, by rw [e]⟩⟩
  · rw [List.nodup_iff_pairwise_ne, List.pairwise_flatMap]
    refine ⟨fun p hp => ?_, ?_⟩
    · rw [← List.nodup_iff_pairwise_ne, List.nodup_cons]
      refine ⟨fun e => ?_, (hk p hp).2.nodup⟩
      have := (len p hp _ e).2.2
      omega
    · have hn' : ps.Pairwise (fun a b => a.1 ≠ b.1) := by
        rw [List.nodup_iff_pairwise_ne, List.pairwise_map] at hn
        exact hn
      refine List.Pairwise.imp_of_mem (R := fun a b => a.1 ≠ b.1) ?_ hn'
      intro p q hp hq hne m1 hm1 m2 hm2 e
      subst e
      rw [List.mem_cons] at hm1 hm2
      have w : ∀ p ∈ ps, ∀ m, (m = p.1 ∨ m ∈ g p) → m < c.states.length ∧ (m = p.1 ∨ (p.1 : Int) ∈ upL c m) := fun p hp m hm => by
        rcases hm with rfl | hm
        · exact ⟨(kid p hp).2.1, .inl rfl⟩
        · exact ⟨(len p hp m hm).1, .inr (len p hp m hm).2.1⟩
      obtain ⟨w1, w2⟩ := w p hp m1 hm1
      obtain ⟨_, w3⟩ := w q hq m1 hm2
      exact hne (kid_one h (kid_real (hk p hp).1).1 (kid_real (hk q hq).1).1 (m1 + 1) m1 (by omega) w1 w2 w3)
theorem cnt_par {c : ChD} (h : Right c) {i : Int} (hi : -1 ≤ i) (hp : parB c i = true) (hc : cntN c i < 2147483647) : cntN c i = prodN (fun k => cntN c k) (kidsL c i true) := by
  rw [cnt_eq h hi] at hc ⊢
  by_cases e : kidsL c i true = []
  · rw [if_pos e, e]; rfl
  · rw [if_neg e, if_pos hp] at hc ⊢
    rw [mul_is fun k hk => (cnt_kid h hk hi).1] at hc ⊢
    omega
theorem cnt_seq {c : ChD} (h : Right c) {i : Int} (hi : -1 ≤ i) (hp : parB c i = false) (hc : cntN c i < 2147483647) (hk : kidsL c i true ≠ []) : cntN c i = sumN (fun k => cntN c k) (kidsL c i true) := by
  rw [cnt_eq h hi, if_neg hk, if_neg (by rw [hp]; simp)] at hc ⊢
  rw [sum_is] at hc ⊢
  omega
theorem cnt_less {c : ChD} (h : Right c) {i : Int} (hi : -1 ≤ i) (hc : cntN c i < 2147483647) {k : Nat} (hk : k ∈ kidsL c i true) : cntN c k ≤ cntN c i := by
  have hne : kidsL c i true ≠ [] := fun e => by rw [e] at hk; simp at hk
  cases hp : parB c i with
  | true => rw [cnt_par h hi hp hc]; exact prod_ge (g := fun k : Nat => cntN c k) (fun k hk => (cnt_kid h hk hi).1) hk
  | false => rw [cnt_seq h hi hp hc hne]; exact sum_ge (g := fun k : Nat => cntN c k) hk
theorem nth_ok {c : ChD} (h : Right c) : ∀ (f : Nat) (i : Int) (n : Nat), -1 ≤ i → (c.states.length : Int) ≤ i + f → n < cntN c i → cntN c i < 2147483647 → Nth c i (nthF c f i n)
  | 0, i, n, hi, hf, hn, hc => by
    refine ⟨fun x hx => by simp [nthF] at hx, fun x hx => by simp [nthF] at hx, ?_, .nil⟩
    unfold kidsOk
    rw [kids_past h (by omega)]
    split
    · exact fun j hj => by simp at hj
    · exact .inl rfl
  | f + 1, i, n, hi, hf, hn, hc => by
    have hpos : ∀ k ∈ kidsL c i true, 1 ≤ cntN c k := fun k hk => (cnt_kid h hk hi).1
    have ih : ∀ k ∈ kidsL c i true, ∀ d, d < cntN c k → Nth c k (nthF c f k d) := fun k hk d hd => by
      have hg := kid_gt h (kid_real hk).1
      have := cnt_less h hi hc hk
      exact nth_ok h f k d (by omega) (by omega) hd (by omega)
    unfold nthF
    cases hp : parB c i with
    | true =>
      rw [if_pos rfl]
      refine nth_join h (fun p hp => ?_) ?_ ?_
      · obtain ⟨h1, h2⟩ := parD_mem _ hpos hp
        exact ⟨h1, ih _ h1 _ h2⟩
      · rw [parD_fst]
        exact kidsL_nodup ..
      · rw [if_pos hp]
        exact fun j hj => parD_has _ _ hj
    | false =>
      rw [if_neg (by simp)]
      by_cases hk : kidsL c i true = []
      · rw [hk]
        refine nth_join h (ps := []) (g := fun _ => []) (fun p hp => by simp at hp) .nil ?_
        rw [hp, if_neg (by simp)]
        exact .inl hk
      · rw [cnt_seq h hi hp hc hk] at hn
        obtain ⟨k, d, h1, h2, h3⟩ := seqD_some _ hn
        rw [h1]
        have := nth_join h (i := i) (ps := [(k, d)]) (g := fun p => nthF c f p.1 p.2) (fun p hp => ?_) (by simp) (by rw [hp, if_neg (by simp)]; exact .inr ⟨_, rfl⟩)
        · simpa using this
        · rw [List.mem_singleton] at hp
          subst hp
          exact ⟨h2, ih k h2 d h3⟩
theorem nth_legal {c : ChD} (h : Full c) {l : List Nat} (hl : Nth c (-1) l) : lgB c (zL (riseL c l)) = true := by
  have hr := h.toRight
  have mem : ∀ k, k ∈ riseL c l ↔ k ∈ l := fun k => by
    rw [rise_mem]
    refine ⟨fun e => e.2, fun e => ⟨?_, e⟩⟩
    obtain ⟨_, s, h1, _⟩ := hl.real k e
    exact (List.getElem?_eq_some_iff.1 h1).1
  obtain ⟨t, ht, hini, htp, htk⟩ := h.topS
  have hm0 : memyB t = false := by
    unfold memyB
    rcases htk with e | e <;> rw [e] <;> rfl
  refine lg_of rises (fun k hk => ?_) ?_
  · obtain ⟨hup, s, hs, hm, hpar⟩ := hl.real k ((mem k).1 hk)
    have hok := hl.ok k ((mem k).1 hk)
    unfold fitI
    rw [at_nat, hs]
    simp only [Int.toNat_natCast]
    unfold fitB
    rw [hm, Bool.and_eq_true, Bool.and_eq_true]
    refine ⟨⟨rfl, ?_⟩, ?_⟩
    · rw [Bool.or_eq_true, decide_eq_true_eq]
      rcases hpar with e | ⟨p, h1, h2⟩
      · left; omega
      · right
        rw [h2]
        exact zL_mem.2 ((mem p).2 h1)
    · unfold kidsOk at hok
      rw [par_kind hs] at hok
      split
      · rename_i e
        rw [if_neg (by simp [e.1])] at hok
        rw [beq_iff_eq]
        rcases hok with hok | ⟨j, hj, hok⟩
        · exact absurd hok e.2
        · exact many_one (kidsL_nodup ..) hj fun x hx => (mem x).trans (hok x hx)
      · split
        · rename_i e
          rw [if_pos (by simp [e])] at hok
          rw [beq_iff_eq]
          exact many_all fun j hj => (mem j).2 (hok j hj)
        · rfl
  · have hok := hl.top
    unfold kidsOk at hok
    rw [show parB c (-1) = false from rfl, if_neg (by simp)] at hok
    rcases hok with hok | ⟨j, hj, hok⟩
    · have := kid_of ht htp hm0
      rw [hok] at this
      simp at this
    · exact many_one (kidsL_nodup ..) hj fun x hx => (mem x).trans (hok x hx)
/-! One more is none -/
theorem many_add {A B : List Nat} {i : Nat} (hi : ¬ i ∈ A) (hAB : ∀ x, x ∈ B ↔ x ∈ A ∨ x = i) : ∀ {ks : List Nat}, ks.Nodup → manyI (zL B) ks = manyI (zL A) ks + if i ∈ ks then 1 else 0
  | [], _ => rfl
  | k :: ks, hn => by
    obtain ⟨h1, h2⟩ := List.nodup_cons.1 hn
    have ih := many_add hi hAB h2
    unfold manyI at ih ⊢
    rw [List.filter_cons, List.filter_cons]
    by_cases e : k = i
    · subst e
      rw [if_pos (zL_mem.2 ((hAB k).2 (.inr rfl))), if_neg (fun q => hi (zL_mem.1 q)), if_pos (by simp), List.length_cons, ih, if_neg h1]
    · have e3 : (i ∈ k :: ks) ↔ i ∈ ks := by
        rw [List.mem_cons]
        exact ⟨fun q => q.resolve_left (Ne.symm e), .inr⟩
      have e2 : (zL B).contains (k : Int) = (zL A).contains (k : Int) := by
        rw [Bool.eq_iff_iff, zL_mem, zL_mem, hAB k]
        exact ⟨fun q => q.resolve_right e, .inl⟩
      simp only [e2, e3]
      split
      · rw [List.length_cons, List.length_cons, ih]; omega
      · exact ih
theorem legal_fit {c : ChD} {l : List Nat} (h : lgB c (zL l) = true) {k : Nat} (hk : k ∈ l) : ∃ s, c.states[k]? = some s ∧ fitB c (zL l) k s = true := by
  obtain ⟨n, hn, e⟩ := List.getElem_of_mem hk
  have h1 := (lg_iff.1 h).1 n (by simpa [zL] using hn)
  have e2 : (zL l)[n]? = some ((k : Nat) : Int) := by unfold zL; rw [List.getElem?_map, List.getElem?_eq_getElem hn, e]; rfl
  unfold lgAt at h1
  rw [e2] at h1
  simp only [Bool.and_eq_true] at h1
  have h2 := h1.2
  unfold fitI at h2
  rw [at_nat] at h2
  cases hs : c.states[k]? with
  | none => rw [hs] at h2; cases h2
  | some s =>
    rw [hs] at h2
    exact ⟨s, rfl, by simpa using h2⟩
theorem legal_one {c : ChD} (h : Full c) {A B : List Nat} {i : Nat} (hA : lgB c (zL A) = true) (hB : lgB c (zL B) = true) (hi : ¬ i ∈ A) (hAB : ∀ x, x ∈ B ↔ x ∈ A ∨ x = i) : False := by
  obtain ⟨s, hs, hf⟩ := legal_fit hB ((hAB i).2 (.inr rfl))
  unfold fitB at hf
  simp only [Bool.and_eq_true, Bool.or_eq_true, decide_eq_true_eq, Bool.not_eq_true'] at hf
  obtain ⟨⟨hm, hp⟩, _⟩ := hf
  have hpl := par_lt h.toRight (inZ_nat.2 (List.getElem?_eq_some_iff.1 hs).1)
  rw [par_nat hs] at hpl
  by_cases e : s.parent < 0
  · have hk : i ∈ kidsL c (-1) true := kid_of hs (by omega) hm
    have h1 := many_add hi hAB (kidsL_nodup c (-1) true)
    rw [(lg_iff.1 hA).2, (lg_iff.1 hB).2, if_pos hk] at h1
    omega
  · obtain ⟨p, hpe⟩ : ∃ p : Nat, s.parent = p := ⟨s.parent.toNat, by omega⟩
    have hpB : p ∈ B := by
      rcases hp with hp | hp
      · omega
      · rw [hpe] at hp
        exact zL_mem.1 hp
    have hpA : p ∈ A := ((hAB p).1 hpB).resolve_right (by omega)
    have hk : i ∈ kidsL c p true := kid_of hs hpe hm
    have h1 := many_add hi hAB (kidsL_nodup c p true)
    rw [if_pos hk] at h1
    have h2 := many_le (zL B) (kidsL c p true)
    obtain ⟨q, hq, fA⟩ := legal_fit hA hpA
    obtain ⟨q', hq', fB⟩ := legal_fit hB hpB
    rw [hq] at hq'
    cases hq'
    unfold fitB at fA fB
    have hne : kidsL c p true ≠ [] := fun e => by rw [e] at hk; simp at hk
    rw [Bool.and_eq_true] at fA fB
    rcases h.cases hq with ⟨e1, _⟩ | ⟨e1, _⟩ | ⟨_, e1, _⟩ | ⟨_, e1, _⟩
    · have a := fA.2
      have b := fB.2
      rw [if_pos ⟨e1, hne⟩, beq_iff_eq] at a b
      omega
    · have a := fA.2
      rw [if_neg (by omega), if_pos e1, beq_iff_eq] at a
      omega
    · exact hne (no_kids e1)
    · exact hne (no_kids e1)
end Go.Proofs.YthffdneigmbgfaaGreatDoor
