/- The document's GetMeta and PutMeta; index.PutMeta's other way; the walk of IndexMetas. -/
import Derived.Test.YtbleibmjippmpaaDoorGetMeta
import Derived.Test.YtbleibmjippmpaaDoorTells
namespace Go.Proofs.YtbleibmjippmpaaDoor
open Go.RowKit

set_option maxHeartbeats 2000000 in
set_option maxRecDepth 100000 in
theorem rgetMeta_18 (b off c : Nat) (bs : List UInt8) (w : World) (hr : Came w b off 18 bs) :
    Calls Tryd.prog 21 #[.slice (some ⟨b, off, none⟩) 18 c] w fun e w' => e = .returned (.tuple #[.agg #[.int .i64 (gSel (getOK bs) (gC bs)), .int .i64 (gSel (getOK bs) (gH bs)), .int .i64 (gSel (getOK bs) (gI bs))], .bool (getOK bs)]) ∧ Below w.heap.size w w' := by
  have B0 : Below w.heap.size w (w.alloc (.cells #[.int .i64 0, .int .i64 0, .int .i64 0] 29)) := (Below.refl _ _).alloc (Nat.le_refl _) _
  have C0 := hr.below B0
  have hl := hr.len
  have d0 := hr.cell 0 (by omega)
  rw [Nat.add_zero] at d0
  have d1 := hr.cell 1 (by omega)
  have M0 := Whole.new w 29 #[.int .i64 0, .int .i64 0, .int .i64 0]
  have OKD : Hid (getOK bs = (!((bs[0].toNat : Int) != 77) && !((bs[1].toNat : Int) != 49) && metaB (gC bs) (gH bs) (gI bs))) := Lib.hid (by
    have e : bs.take 2 = [bs[0], bs[1]] := by
      apply List.ext_getElem
      · simp; omega
      · intro i h1 h2
        have : i < 2 := by simpa using h2
        match i, this with
        | 0, _ => simp
        | 1, _ => simp
    have e2 : decide (bs.take 2 = [77, 49]) = (!((bs[0].toNat : Int) != 77) && !((bs[1].toNat : Int) != 49)) := by
      rw [e, Bool.eq_iff_iff]
      simp [← UInt8.toNat_inj]
      omega
    rw [getOK, e2]
    simp [hl])
  have C := Lib.hid C0
  have B := Lib.hid B0
  have M := Lib.hid M0
  have hbl : b < w.heap.size := hr.lt
  generalize bs[0].toNat = y0 at *
  generalize bs[1].toNat = y1 at *
  clear C0 B0 hr M0 hl
  by_cases q1 : ((y0 : Int) != 77) = true
  · have kn : Hid (getOK bs = false) := Lib.hid (by rw [OKD.out, q1]; rfl)
    go_enter Tryd.func21, Tryd.ntmps21
    go_wp2_with fail
    refine bodyPost_ret (v := .tuple #[.agg #[.int .i64 0, .int .i64 0, .int .i64 0], .bool false]) (by simp [results, Tryd.results21, go_sem]) rfl ?_
    rw [kn.out]
    exact ⟨rfl, by go_grown⟩
  have q1 : ((y0 : Int) != 77) = false := Bool.eq_false_iff.2 q1
  by_cases q2 : ((y1 : Int) != 49) = true
  · have kn : Hid (getOK bs = false) := Lib.hid (by rw [OKD.out, q2]; simp)
    go_enter Tryd.func21, Tryd.ntmps21
    go_wp2_with fail
    refine bodyPost_ret (v := .tuple #[.agg #[.int .i64 0, .int .i64 0, .int .i64 0], .bool false]) (by simp [results, Tryd.results21, go_sem]) rfl ?_
    rw [kn.out]
    exact ⟨rfl, by go_grown⟩
  have q2 : ((y1 : Int) != 49) = false := Bool.eq_false_iff.2 q2
  have OK2 : Hid (getOK bs = metaB (gC bs) (gH bs) (gI bs)) := Lib.hid (by rw [OKD.out, q1, q2]; simp)
  go_enter Tryd.func21, Tryd.ntmps21
  go_wp2_with fail
  refine (rtake_yes _ 18 c bs 2 8 _ C.out.len C.out.reads (by omega) (by omega) (by omega) 2 8 rfl rfl).mono ?_
  rintro e w' ⟨rfl, rfl⟩
  go_wp2_with fail
  refine (rtake_yes _ 18 c bs 10 4 _ C.out.len C.out.reads (by omega) (by omega) (by omega) 10 4 rfl rfl).mono ?_
  rintro e w' ⟨rfl, rfl⟩
  go_wp2_with fail
  refine (rtake_yes _ 18 c bs 14 4 _ C.out.len C.out.reads (by omega) (by omega) (by omega) 14 4 rfl rfl).mono ?_
  rintro e w' ⟨rfl, rfl⟩
  have l1 : valLE (cut bs 2 8) < 18446744073709551616 := gC_lt bs
  have l2 : valLE (cut bs 10 4) < 4294967296 := gH_lt bs
  have l3 : valLE (cut bs 14 4) < 4294967296 := gI_lt bs
  have e1 : Hid (gC bs = valLE (cut bs 2 8) ∧ gH bs = valLE (cut bs 10 4) ∧ gI bs = valLE (cut bs 14 4)) := Lib.hid ⟨rfl, rfl, rfl⟩
  generalize valLE (cut bs 2 8) = x1 at *
  generalize valLE (cut bs 10 4) = x2 at *
  generalize valLE (cut bs 14 4) = x3 at *
  rw [e1.out.1, e1.out.2.1, e1.out.2.2] at OK2
  clear OKD
  by_cases h3 : x1 ≤ 1099511627776
  · have g3 : ¬ (1099511627776 : Int) < x1 := by omega
    go_wp2_with fail
    refine (rmeta_any _ _ _ _).mono ?_
    rintro e w' ⟨rfl, rfl⟩
    cases hm : metaB x1 x2 x3
    · have kn : Hid (getOK bs = false) := Lib.hid (by rw [OK2.out, hm])
      go_wp2_with fail
      refine bodyPost_ret (v := .tuple #[.agg #[.int .i64 0, .int .i64 0, .int .i64 0], .bool false]) (by simp [results, Tryd.results21, go_sem]) rfl ?_
      rw [kn.out]
      exact ⟨rfl, by go_grown⟩
    · have kn : Hid (getOK bs = true) := Lib.hid (by rw [OK2.out, hm])
      go_wp2_with fail
      refine bodyPost_ret (v := .tuple #[.agg #[.int .i64 x1, .int .i64 x2, .int .i64 x3], .bool true]) (by simp [results, Tryd.results21, go_sem]) rfl ?_
      rw [kn.out, e1.out.1, e1.out.2.1, e1.out.2.2]
      exact ⟨rfl, by go_grown⟩
  · have kn : Hid (getOK bs = false) := Lib.hid (by rw [OK2.out]; simp [metaB, clockB]; omega)
    have g3 : (1099511627776 : Int) < x1 := by omega
    go_wp2_with fail
    refine bodyPost_ret (v := .tuple #[.agg #[.int .i64 0, .int .i64 0, .int .i64 0], .bool false]) (by simp [results, Tryd.results21, go_sem]) rfl ?_
    rw [kn.out]
    exact ⟨rfl, by go_grown⟩

set_option maxRecDepth 100000 in
theorem rgetMeta_any (A : Option Addr) (n c : Nat) (bs : List UInt8) (w : World) (hn : bs.length = n) (hr : Reads w w.heap.size 1 A n (bv bs)) :
    Calls Tryd.prog 21 #[.slice A n c] w fun e w' => e = .returned (.tuple #[.agg #[.int .i64 (gSel (getOK bs) (gC bs)), .int .i64 (gSel (getOK bs) (gH bs)), .int .i64 (gSel (getOK bs) (gI bs))], .bool (getOK bs)]) ∧ Below w.heap.size w w' := by
  by_cases h : n = 18
  · subst h
    obtain ⟨b, off, rfl, hC⟩ := came_of hn (by omega) hr
    exact rgetMeta_18 b off c bs w hC
  · have kn : Hid (getOK bs = false) := Lib.hid (by simp [getOK, hn, h])
    have e18 : ((n : Int) != 18) = true := by rw [bne_iff_ne]; omega
    clear hn h hr
    go_enter Tryd.func21, Tryd.ntmps21
    go_wp2_with fail
    refine bodyPost_ret (v := .tuple #[.agg #[.int .i64 0, .int .i64 0, .int .i64 0], .bool false]) (by simp [results, Tryd.results21, go_sem]) rfl ?_
    rw [kn.out]
    exact ⟨rfl, by go_grown⟩

set_option maxRecDepth 100000 in
theorem putMeta_no (c h i : Int) (w : World) (hm : metaB c h i = false) (aF : Addr) (hf : Sent w 0 aF) :
    Calls Tryd.prog 15 #[.agg #[.int .i64 c, .int .i64 h, .int .i64 i]] w fun e w' => ∃ E, e = .returned (.tuple #[.slice none 0 0, E]) ∧ Below w.heap.size w w' ∧ ErrAt w' aF 1 E := by
  have B0 := ((Below.refl w.heap.size w).alloc (Nat.le_refl _) (.cells #[.int .i64 c, .int .i64 h, .int .i64 i] 23)).alloc (by simp) (.cells #[.int .i64 c, .int .i64 h, .int .i64 i] 23)
  have F0 := Lib.hid (hf.below B0)
  have c0 := F0.out.1
  have HB := Lib.hid B0
  clear hf B0
  go_enter Tryd.func15, Tryd.ntmps15
  go_wp2_with (first
    | (go_at_call 60; refine (iright_any _ _ _ _).mono ?_; rintro e w' ⟨rfl, rfl⟩)
    | (go_at_call 61; refine (new_any _ _ _ _).mono ?_; rintro e w' ⟨rfl, rfl⟩))
  go_ret2
  have E := ErrAt.new F0.out ⟨#[105, 110, 100, 101, 120, 46, 80, 117, 116, 77, 101, 116, 97]⟩ (-1)
  simp only [World.size_alloc] at E
  exact ⟨_, rfl, HB.out.alloc HB.out.size _, E⟩
end Go.Proofs.YtbleibmjippmpaaDoor
