/- field.Take's error, the reader's num. -/
import Derived.Test.YtbleibmjippmpaaDoorRec8
import Derived.Test.YtbleibmjippmpaaDoorTake
namespace Go.Proofs.YtbleibmjippmpaaDoor
open Go.RowKit

set_option maxHeartbeats 400000 in
set_option maxRecDepth 100000 in
theorem ftake_no (A : Option Addr) (n c at_ wd : Nat) (w : World) (_hl : n ≤ 140737488351232) (hw : wd = 1 ∨ wd = 2 ∨ wd = 4 ∨ wd = 8) (ha : at_ ≤ n) (hf : n < at_ + wd) (ka kw : Int) (hka : ka = at_) (hkw : kw = wd) (aF : Addr) (hS : Sent w 0 aF) :
    Calls Tryd.prog 67 #[.slice A n c, .int .i64 ka, .int .i64 kw] w fun e w' => ∃ t v, e = .returned (.tuple #[.int .u64 0, .iface t v]) ∧ Below w.heap.size w w' := by
  subst hka hkw
  have b1 : widthB wd = true := by simp [widthB]; omega
  have hwd : wd ≤ 8 := by omega
  have cF := hS.1
  clear hS hw
  go_enter Tryd.func67, Tryd.ntmps67
  go_wp2_with (first | (go_at_call 115; refine (fright_any _ _).mono ?_; rintro e w' ⟨rfl, rfl⟩) | (go_at_call 61; refine (new_any _ _ _ _).mono ?_; rintro e w' ⟨rfl, rfl⟩))
  go_ret2
  exact ⟨_, _, rfl, (Below.refl _ _).alloc (Nat.le_refl _) _⟩

/-- A reader at block g. -/
structure RdAt (w : World) (g : Nat) (A : Option Addr) (n c : Nat) (bs : List UInt8) (at_ : Nat) (bad : Bool) : Prop where
  cells : Whole w g 137 #[.slice A n c, .int .i64 at_, .bool bad]
  len : bs.length = n
  reads : Reads w w.heap.size 1 A n (bv bs)
  ne : ∀ b off, A = some ⟨b, off, none⟩ → b ≠ g
  at_le : at_ ≤ n
  cap : n ≤ c
  few : n ≤ 140737488351232
theorem reads_only {w w' : World} {g n : Nat} {A : Option Addr} {xs : List Value} (h : Reads w w.heap.size 1 A n xs) (hne : ∀ b off, A = some ⟨b, off, none⟩ → b ≠ g) (hg : w.grownBy w' (some g)) : Reads w' w'.heap.size 1 A n xs := by
  refine ⟨h.1, fun hp => ?_⟩
  obtain ⟨b, off, e, hlt, hc⟩ := h.2 hp
  refine ⟨b, off, e, Nat.lt_of_lt_of_le hlt hg.size, fun j u hu => ?_⟩
  exact (World.cell?_of_block (a := ⟨b, off + j, none⟩) (hg.block b hlt (by have := hne b off e; simp; omega))).trans (hc j u hu)
/-- The reader behind a change of its own block alone. -/
theorem RdAt.turned {w w' : World} {g : Nat} {A : Option Addr} {n c : Nat} {bs : List UInt8} {at_ at' : Nat} {bad bad' : Bool} (h : RdAt w g A n c bs at_ bad) (hg : w.grownBy w' (some g)) (hc : Whole w' g 137 #[.slice A n c, .int .i64 at', .bool bad']) (ha : at' ≤ n) : RdAt w' g A n c bs at' bad' :=
  ⟨hc, h.len, reads_only h.reads h.ne hg, h.ne, ha, h.cap, h.few⟩
theorem RdAt.below {w w' : World} {g : Nat} {A : Option Addr} {n c : Nat} {bs : List UInt8} {at_ : Nat} {bad : Bool} (h : RdAt w g A n c bs at_ bad) (hb : Below w.heap.size w w') : RdAt w' g A n c bs at_ bad :=
  ⟨h.cells.below hb h.cells.lt, h.len, (h.reads.below hb).wider hb.size, h.ne, h.at_le, h.cap, h.few⟩
/-- What num tells. -/
def NumTold (bs : List UInt8) (at_ wd : Nat) (bad : Bool) (m at' : Nat) (bad' : Bool) : Prop :=
  ((pnum bs at_ wd = some (m, at') ∧ bad' = bad) ∨ (pnum bs at_ wd = none ∧ bad' = true)) ∧ m < 256 ^ wd ∧ m ≤ 4611686018427387904
def NumPost (w : World) (g : Nat) (A : Option Addr) (n c : Nat) (bs : List UInt8) (at_ wd : Nat) (bad : Bool) (e : Ending) (w' : World) : Prop :=
  ∃ (m at' : Nat) (bad' : Bool), e = .returned (.int .i64 m) ∧ RdAt w' g A n c bs at' bad' ∧ w.grownBy w' (some g) ∧ NumTold bs at_ wd bad m at' bad'

set_option maxHeartbeats 1000000 in
set_option maxRecDepth 100000 in
theorem num_any (g : Nat) (A : Option Addr) (n c : Nat) (bs : List UInt8) (at_ wd : Nat) (bad : Bool) (w : World) (h : RdAt w g A n c bs at_ bad) (hw : wd = 1 ∨ wd = 2 ∨ wd = 4 ∨ wd = 8) (kw : Int) (hkw : kw = wd) (aF : Addr) (hS : Sent w 0 aF) :
    Calls Tryd.prog 80 #[.pointer (some ⟨g, 0, none⟩), .int .i64 kw] w (NumPost w g A n c bs at_ wd bad) := by
  subst hkw
  obtain ⟨c1, c2, c3⟩ := h.cells.c3
  have f1 := h.cells.frozen 1
  have f2 := h.cells.frozen 2
  have HR := Lib.hid h
  have hle := h.at_le
  have hfew := h.few
  have hwd : wd ≤ 8 := by omega
  have hgl := h.cells.lt
  have HW := Lib.hid hw
  have HS := Lib.hid hS
  by_cases hf : at_ + wd ≤ n
  · have hv := valLE_lt (cut bs at_ wd)
    rw [cut_len bs at_ wd (by rw [h.len]; exact hf)] at hv
    have hv64 : valLE (cut bs at_ wd) < 18446744073709551616 := by
      have : 256 ^ wd ≤ 256 ^ 8 := Nat.pow_le_pow_right (by decide) hwd
      omega
    have HV := Lib.hid hv
    have HP := Lib.hid (show pnum bs at_ wd = if valLE (cut bs at_ wd) ≤ 4611686018427387904 then some (valLE (cut bs at_ wd), at_ + wd) else none by rw [pnum, h.len]; simp [hf])
    have HX := Lib.hid (fun W => ftake_yes A n c bs at_ wd W h.len)
    clear h hv hw hS
    generalize hx : valLE (cut bs at_ wd) = x at *
    have HXX := Lib.hid hx
    clear hx
    by_cases hb : x ≤ 4611686018427387904
    · have k1 := Lib.hid (show NumTold bs at_ wd bad x (at_ + wd) bad from ⟨.inl ⟨by rw [HP.out, if_pos hb], rfl⟩, HV.out, hb⟩)
      have k2 := Lib.hid (only_setCell (p := ⟨g, 1, none⟩) (World.grownBy.refl w (some g)) (.inl rfl) (.int .i64 ((at_ + wd : Nat) : Int)))
      have k3 := Lib.hid (HR.out.turned k2.out (at' := at_ + wd) (bad' := bad) (by simpa using HR.out.cells.put 1 (.int .i64 ((at_ + wd : Nat) : Int))) (by omega))
      go_enter Tryd.func80, Tryd.ntmps80
      go_wp2
      go_quiet ((go_at_call 67; exact quiet_left (HX.out _ (HR.out.reads.drewN _) hfew HW.out hf _ _ rfl rfl)))
      go_wp2
      go_ret
      exact ⟨x, at_ + wd, bad, rfl, k3.out.below (below_drewN (Below.refl _ _) _), only_drewN k2.out _, k1.out⟩
    · have k1 := Lib.hid (show NumTold bs at_ wd bad 0 at_ true from ⟨.inr ⟨by rw [HP.out, if_neg hb], rfl⟩, Nat.pow_pos (by decide), by omega⟩)
      have k2 := Lib.hid (only_setCell (p := ⟨g, 2, none⟩) (World.grownBy.refl w (some g)) (.inl rfl) (.bool true))
      have k3 := Lib.hid (HR.out.turned k2.out (at' := at_) (bad' := true) (by simpa using HR.out.cells.put 2 (.bool true)) hle)
      go_enter Tryd.func80, Tryd.ntmps80
      go_wp2
      go_quiet ((go_at_call 67; exact quiet_left (HX.out _ (HR.out.reads.drewN _) hfew HW.out hf _ _ rfl rfl)))
      go_wp2
      go_ret
      exact ⟨0, at_, true, rfl, k3.out.below (below_drewN (Below.refl _ _) _), only_drewN k2.out _, k1.out⟩
  · have k1 := Lib.hid (show NumTold bs at_ wd bad 0 at_ true from ⟨.inr ⟨by rw [pnum, h.len, if_neg (by omega)], rfl⟩, Nat.pow_pos (by decide), by omega⟩)
    clear h hw hS
    go_enter Tryd.func80, Tryd.ntmps80
    go_wp2
    go_region_held3 (fun w' => w'.cell? ⟨g, 0, none⟩ = some (.slice A n c) ∧ w'.cell? ⟨g, 1, none⟩ = some (.int .i64 at_)) (first | (go_keep; done))
      (first | (go_at_call 67; refine (ftake_no A n c at_ wd _ hfew HW.out hle (by omega) _ _ rfl rfl aF (HS.out.below ((Below.refl _ w).drew))).mono ?_; rintro e w2 ⟨t2, v2, rfl, hb2⟩; have R2 := HR.out.below ((Below.refl _ w).drew.trans hb2); obtain ⟨d1, d2, d3⟩ := R2.cells.c3; have d4 := R2.cells.frozen 2; have HR2 := Lib.hid R2; have HB2 := Lib.hid hb2; clear R2 hb2))
    have k2 := Lib.hid (only_setCell (p := ⟨g, 2, none⟩) (only_below (only_drew (World.grownBy.refl w (some g))) HB2.out) (.inl rfl) (.bool true))
    have k3 := Lib.hid (HR2.out.turned (only_setCell (p := ⟨g, 2, none⟩) (World.grownBy.refl w2 (some g)) (.inl rfl) (.bool true)) (at' := at_) (bad' := true) (by simpa using HR2.out.cells.put 2 (.bool true)) hle)
    go_wp2
    go_ret
    exact ⟨0, at_, true, rfl, k3.out, k2.out, k1.out⟩
end Go.Proofs.YtbleibmjippmpaaDoor
