/- index.GetMeta, the document's Right, GetMeta, PutMeta. -/
import Derived.Test.YtbleibmjippmpaaDoorTake2
import Derived.Test.YtbleibmjippmpaaDoorMeta
import Derived.Deep.DeepCutAuto
namespace Go.Proofs.YtbleibmjippmpaaDoor
open Go.RowKit

def gC (bs : List UInt8) : Nat := valLE (cut bs 2 8)
def gH (bs : List UInt8) : Nat := valLE (cut bs 10 4)
def gI (bs : List UInt8) : Nat := valLE (cut bs 14 4)
def getOK (bs : List UInt8) : Bool := decide (bs.length = 18) && decide (bs.take 2 = [77, 49]) && metaB (gC bs) (gH bs) (gI bs)
def gSel (b : Bool) (x : Nat) : Int := if b then x else 0

theorem gC_lt (bs : List UInt8) : gC bs < 18446744073709551616 := by
  have h1 := valLE_lt (cut bs 2 8)
  have h2 : (cut bs 2 8).length ≤ 8 := by simp [cut]; omega
  have h3 : 256 ^ (cut bs 2 8).length ≤ 256 ^ 8 := Nat.pow_le_pow_right (by decide) h2
  unfold gC
  omega
theorem gH_lt (bs : List UInt8) : gH bs < 4294967296 := by
  have h1 := valLE_lt (cut bs 10 4)
  have h2 : (cut bs 10 4).length ≤ 4 := by simp [cut]; omega
  have h3 : 256 ^ (cut bs 10 4).length ≤ 256 ^ 4 := Nat.pow_le_pow_right (by decide) h2
  unfold gH
  omega
theorem gI_lt (bs : List UInt8) : gI bs < 4294967296 := by
  have h1 := valLE_lt (cut bs 14 4)
  have h2 : (cut bs 14 4).length ≤ 4 := by simp [cut]; omega
  have h3 : 256 ^ (cut bs 14 4).length ≤ 256 ^ 4 := Nat.pow_le_pow_right (by decide) h2
  unfold gI
  omega

set_option maxHeartbeats 1000000 in
/-- The document's Right: as index.right. -/
theorem rmeta_any (c h i : Int) (w : World) : Calls Tryd.prog 16 #[.agg #[.int .i64 c, .int .i64 h, .int .i64 i]] w fun e w' => e = .returned (.bool (metaB c h i)) ∧ w.alloc (.cells #[.int .i64 c, .int .i64 h, .int .i64 i] 29) = w' := by
  have e : metaB c h i = (clockB c && ((h == 0) || numberB h) && ((i == 0) || numberB i)) := by
    have f : ∀ x : Int, ((x == 0) || numberB x) = decide (0 ≤ x ∧ x ≤ 2147483647) := fun x => by
      rw [Bool.eq_iff_iff]
      simp [numberB]
      omega
    rw [f, f, metaB, Bool.and_assoc, Bool.eq_iff_iff]
    simp
    omega
  have HE := Lib.hid e
  clear e
  cases h1 : clockB c
  · go_enter Tryd.func16, Tryd.ntmps16
    go_wp2_with (go_at_call 64; refine (rclock_any _ _).mono ?_; rintro e w' ⟨rfl, rfl⟩)
    go_ret
    rw [HE.out, h1]
    exact ⟨by simp, rfl⟩
  · cases h2 : (h == 0) <;> cases h3 : numberB h <;> cases h4 : (i == 0)
    all_goals
      go_enter Tryd.func16, Tryd.ntmps16
      go_wp2_with (first
        | (go_at_call 64; refine (rclock_any _ _).mono ?_; rintro e w' ⟨rfl, rfl⟩)
        | (go_at_call 65; refine (rnumber_any _ _).mono ?_; rintro e w' ⟨rfl, rfl⟩))
      go_ret
      rw [HE.out, h1, h2, h3, h4]
      refine ⟨?_, rfl⟩
      first | (simp; done) | (simp; rfl)

/-- What of the bytes that came in is known in a later world. -/
structure Came (W : World) (b off n : Nat) (bs : List UInt8) : Prop where
  len : bs.length = n
  lt : b < W.heap.size
  cell : ∀ j (h : j < bs.length), W.cell? ⟨b, off + j, none⟩ = some (.int .u8 (bs[j].toNat : Int))
theorem Came.reads {W : World} {b off n : Nat} {bs : List UInt8} (h : Came W b off n bs) : Reads W W.heap.size 1 (some ⟨b, off, none⟩) n (bv bs) :=
  ⟨by simp [bv, h.len], fun _ => ⟨b, off, rfl, h.lt, fun j u hu => by
    have hj : j < bs.length := by
      rcases Nat.lt_or_ge j bs.length with h | h
      · exact h
      · rw [List.getElem?_eq_none (by simpa [bv] using h)] at hu
        cases hu
    rw [bv_get bs j hj] at hu
    cases hu
    exact h.cell j hj⟩⟩
theorem Came.below {W W' : World} {b off n : Nat} {bs : List UInt8} (h : Came W b off n bs) (hb : Below W.heap.size W W') : Came W' b off n bs :=
  ⟨h.len, Nat.lt_of_lt_of_le h.lt hb.size, fun j hj => cell_below (h.cell j hj) hb⟩
theorem came_of {W : World} {A : Option Addr} {n : Nat} {bs : List UInt8} (hn : bs.length = n) (hp : 0 < n) (h : Reads W W.heap.size 1 A n (bv bs)) : ∃ b off, A = some ⟨b, off, none⟩ ∧ Came W b off n bs := by
  obtain ⟨b, off, e, hlt, hc⟩ := h.2 hp
  exact ⟨b, off, e, hn, hlt, fun j hj => hc j _ (bv_get bs j hj)⟩

/-- The first two bytes as a text. -/
theorem two_text {P : Program} {ts e td : TypeId} (hs : P.underlying ts = some (.slice e)) (he : P.underlying e = some (.int .u8)) (hd : P.underlying td = some .string) {W : World} {b off n : Nat} {bs : List UInt8} (h : Came W b off n bs) (h2 : 2 ≤ n) (c : Nat) :
    (convert ts td (.slice (some ⟨b, off, none⟩) 2 c)).run P W = .ok (.string ⟨(bs.take 2).toArray⟩) W := by
  have hl := h.len
  have := run_convert_bytes_arg (P := P) W ts e hs he b off 2 c ((bs.take 2).map fun x => (x.toNat : Int)) (by simp; omega) (fun i hi => by
    rw [h.cell i (by omega)]
    simp [List.getD, hi, List.getElem?_eq_getElem (show i < bs.length by omega)]) td hd
  rw [this]
  congr 3
  simp [strOfNums, List.map_map, Function.comp_def]

set_option maxHeartbeats 4000000 in
set_option maxRecDepth 100000 in
theorem getMeta_18 (b off c : Nat) (bs : List UInt8) (w : World) (hr : Came w b off 18 bs) (hc : 18 ≤ c) (aF : Addr) (hf : Sent w 0 aF) :
    Calls Tryd.prog 18 #[.slice (some ⟨b, off, none⟩) 18 c] w fun e w' => ∃ E, e = .returned (.tuple #[.agg #[.int .i64 (gSel (getOK bs) (gC bs)), .int .i64 (gSel (getOK bs) (gH bs)), .int .i64 (gSel (getOK bs) (gI bs))], E]) ∧ Below w.heap.size w w' ∧
      ((getOK bs = true ∧ E = .nilIface) ∨ (getOK bs = false ∧ ErrAt w' aF 1 E)) := by
  have B0 : Below w.heap.size w (w.alloc (.cells #[.int .i64 0, .int .i64 0, .int .i64 0] 23)) := (Below.refl _ _).alloc (Nat.le_refl _) _
  have F0 := Lib.hid (hf.below B0)
  have C0 := Lib.hid (hr.below B0)
  have c0 := F0.out.1
  have M0 := Lib.hid (Whole.new w 23 #[.int .i64 0, .int .i64 0, .int .i64 0])
  have B0' := Lib.hid B0
  have OKD : Hid (getOK bs = (decide (bs.take 2 = [77, 49]) && metaB (gC bs) (gH bs) (gI bs))) := Lib.hid (by simp [getOK, hr.len])
  have hlt : aF.block < w.heap.size := hf.2.lt
  clear hf hr B0
  go_enter Tryd.func18, Tryd.ntmps18
  go_wp2_with fail
  refine (new_any _ _ _ _).mono ?_
  rintro e W2 ⟨rfl, hW2⟩
  have hb2 : Below (w.alloc (.cells #[.int .i64 0, .int .i64 0, .int .i64 0] 23)).heap.size (w.alloc (.cells #[.int .i64 0, .int .i64 0, .int .i64 0] 23)) W2 := by
    rw [← hW2]
    exact (Below.refl _ _).alloc (Nat.le_refl _) _
  have E2 := Lib.hid (show ErrAt W2 aF 1 (.iface 174 (.pointer (some ⟨(w.alloc (.cells #[.int .i64 0, .int .i64 0, .int .i64 0] 23)).heap.size, 0, none⟩))) by rw [← hW2]; exact ErrAt.new F0.out _ _)
  have C2 := Lib.hid (C0.out.below hb2)
  have M2 := M0.out.below hb2 (by simp)
  have B2 := Lib.hid (B0'.out.trans (hb2.mono (by simp)))
  have hz2 : w.heap.size < W2.heap.size := M2.lt
  clear hW2 hb2 F0 C0 M0 B0' c0
  generalize hEV : (Value.iface 174 (.pointer (some ⟨(w.alloc (.cells #[.int .i64 0, .int .i64 0, .int .i64 0] 23)).heap.size, 0, none⟩))) = EV at *
  have HEV : Hid (EV = .iface 174 (.pointer (some ⟨w.heap.size + 1, 0, none⟩))) := Lib.hid (by rw [← hEV]; simp)
  clear hEV
  have hcv := two_text (P := Tryd.prog) Tryd.underlying24 Tryd.underlying5 Tryd.underlying9 C2.out (by omega) c
  obtain ⟨m0, m1, m2⟩ := M2.c3
  have f0 := M2.frozen 0
  have f1 := M2.frozen 1
  have f2 := M2.frozen 2
  have hcc : (2 : Int) ≤ (c : Int) := by omega
  by_cases h2 : bs.take 2 = [77, 49]
  · rw [h2] at hcv
    have r2 := C2.out.reads
    go_wp2_with fail
    refine (ftake_yes _ 18 c bs 2 8 _ C2.out.len C2.out.reads (by omega) (by omega) (by omega) 2 8 rfl rfl).mono ?_
    rintro e w' ⟨rfl, rfl⟩
    go_wp2_with fail
    refine (ftake_yes _ 18 c bs 10 4 _ C2.out.len C2.out.reads (by omega) (by omega) (by omega) 10 4 rfl rfl).mono ?_
    rintro e w' ⟨rfl, rfl⟩
    go_wp2_with fail
    refine (ftake_yes _ 18 c bs 14 4 _ C2.out.len C2.out.reads (by omega) (by omega) (by omega) 14 4 rfl rfl).mono ?_
    rintro e w' ⟨rfl, rfl⟩
    have OK2 : Hid (getOK bs = metaB (gC bs) (gH bs) (gI bs)) := Lib.hid (by rw [OKD.out, h2]; simp)
    have l1 : valLE (cut bs 2 8) < 18446744073709551616 := gC_lt bs
    have l2 : valLE (cut bs 10 4) < 4294967296 := gH_lt bs
    have l3 : valLE (cut bs 14 4) < 4294967296 := gI_lt bs
    have e1 : Hid (gC bs = valLE (cut bs 2 8) ∧ gH bs = valLE (cut bs 10 4) ∧ gI bs = valLE (cut bs 14 4)) := Lib.hid ⟨rfl, rfl, rfl⟩
    generalize valLE (cut bs 2 8) = x1 at *
    generalize valLE (cut bs 10 4) = x2 at *
    generalize valLE (cut bs 14 4) = x3 at *
    rw [e1.out.1, e1.out.2.1, e1.out.2.2] at OK2
    clear OKD h2 hcv r2
    by_cases h3 : x1 ≤ 1099511627776
    · have g3 : ¬ (1099511627776 : Int) < x1 := by omega
      go_wp2_with fail
      refine (iright_any _ _ _ _).mono ?_
      rintro e w' ⟨rfl, rfl⟩
      have nb : w.heap.size ≠ W2.heap.size := by omega
      cases hm : metaB x1 x2 x3
      · have kn : Hid (getOK bs = false) := Lib.hid (by rw [OK2.out, hm])
        go_wp2_with fail
        obtain ⟨r0, r1, r2⟩ := (((((M2.put 0 (.int .i64 0)).put 1 (.int .i64 0)).put 2 (.int .i64 0)).alloc (.cells #[.int .i64 x1, .int .i64 x2, .int .i64 x3] 23)).alloc (.cells #[.int .i64 x1, .int .i64 x2, .int .i64 x3] 23)).c3
        refine bodyPost_ret (v := .tuple #[.agg #[.int .i64 0, .int .i64 0, .int .i64 0], EV]) (by simp [results, Tryd.results18, go_sem, r0, r1, r2]) rfl ?_
        clear r0 r1 r2
        rw [kn.out]
        have E3 := ((E2.out.stored (p := ⟨w.heap.size, 0, none⟩) HEV.out (by simp) (by simp; omega) (.int .i64 0)).stored (p := ⟨w.heap.size, 1, none⟩) HEV.out (by simp) (by simp; omega) (.int .i64 0)).stored (p := ⟨w.heap.size, 2, none⟩) HEV.out (by simp) (by simp; omega) (.int .i64 0)
        have B3 := ((B2.out.setCell (p := ⟨w.heap.size, 0, none⟩) (by simp) (.int .i64 0)).setCell (p := ⟨w.heap.size, 1, none⟩) (by simp) (.int .i64 0)).setCell (p := ⟨w.heap.size, 2, none⟩) (by simp) (.int .i64 0)
        generalize ((W2.setCell ⟨w.heap.size, 0, none⟩ (.int .i64 0)).setCell ⟨w.heap.size, 1, none⟩ (.int .i64 0)).setCell ⟨w.heap.size, 2, none⟩ (.int .i64 0) = W3 at *
        have hz3 := B3.size
        exact ⟨EV, rfl, (B3.alloc hz3 _).alloc (by simp; omega) _, .inr ⟨rfl, E3.below (((Below.refl _ _).alloc (Nat.le_refl _) _).alloc (by simp) _)⟩⟩
      · have kn : Hid (getOK bs = true) := Lib.hid (by rw [OK2.out, hm])
        go_wp2_with fail
        obtain ⟨r0, r1, r2⟩ := (((((M2.put 0 (.int .i64 x1)).put 1 (.int .i64 x2)).put 2 (.int .i64 x3)).alloc (.cells #[.int .i64 x1, .int .i64 x2, .int .i64 x3] 23)).alloc (.cells #[.int .i64 x1, .int .i64 x2, .int .i64 x3] 23)).c3
        refine bodyPost_ret (v := .tuple #[.agg #[.int .i64 x1, .int .i64 x2, .int .i64 x3], .nilIface]) (by simp [results, Tryd.results18, go_sem, r0, r1, r2]) rfl ?_
        clear r0 r1 r2
        rw [kn.out, e1.out.1, e1.out.2.1, e1.out.2.2]
        have B3 := ((B2.out.setCell (p := ⟨w.heap.size, 0, none⟩) (by simp) (.int .i64 x1)).setCell (p := ⟨w.heap.size, 1, none⟩) (by simp) (.int .i64 x2)).setCell (p := ⟨w.heap.size, 2, none⟩) (by simp) (.int .i64 x3)
        generalize ((W2.setCell ⟨w.heap.size, 0, none⟩ (.int .i64 x1)).setCell ⟨w.heap.size, 1, none⟩ (.int .i64 x2)).setCell ⟨w.heap.size, 2, none⟩ (.int .i64 x3) = W3 at *
        have hz3 := B3.size
        exact ⟨_, rfl, (B3.alloc hz3 _).alloc (by simp; omega) _, .inl ⟨rfl, rfl⟩⟩
    · have kn : Hid (getOK bs = false) := Lib.hid (by rw [OK2.out]; simp [metaB, clockB]; omega)
      have g3 : (1099511627776 : Int) < x1 := by omega
      go_wp2_with fail
      refine bodyPost_ret (v := .tuple #[.agg #[.int .i64 0, .int .i64 0, .int .i64 0], EV]) (by simp [results, Tryd.results18, go_sem, m0, m1, m2]) rfl ?_
      rw [kn.out]
      refine ⟨EV, rfl, ((B2.out.setCell (by simp) _).setCell (by simp) _).setCell (by simp) _, .inr ⟨rfl, ?_⟩⟩
      exact ((E2.out.stored HEV.out (by simp) (by simp; omega) _).stored HEV.out (by simp) (by simp; omega) _).stored HEV.out (by simp) (by simp; omega) _
  · have hno : (bs.take 2 == [77, 49]) = false := by simpa using h2
    have kn : Hid (getOK bs = false) := Lib.hid (by rw [OKD.out]; simp [h2])
    generalize bs.take 2 = tw at *
    clear h2
    go_wp2_with fail
    refine bodyPost_ret (v := .tuple #[.agg #[.int .i64 0, .int .i64 0, .int .i64 0], EV]) (by simp [results, Tryd.results18, go_sem, m0, m1, m2]) rfl ?_
    rw [kn.out]
    refine ⟨EV, rfl, ((B2.out.setCell (by simp) _).setCell (by simp) _).setCell (by simp) _, .inr ⟨rfl, ?_⟩⟩
    exact ((E2.out.stored HEV.out (by simp) (by simp; omega) _).stored HEV.out (by simp) (by simp; omega) _).stored HEV.out (by simp) (by simp; omega) _

set_option maxHeartbeats 1000000 in
set_option maxRecDepth 100000 in
theorem getMeta_no18 (A : Option Addr) (n c : Nat) (bs : List UInt8) (w : World) (hn : bs.length = n) (h18 : n ≠ 18) (aF : Addr) (hf : Sent w 0 aF) :
    Calls Tryd.prog 18 #[.slice A n c] w fun e w' => ∃ E, e = .returned (.tuple #[.agg #[.int .i64 (gSel (getOK bs) (gC bs)), .int .i64 (gSel (getOK bs) (gH bs)), .int .i64 (gSel (getOK bs) (gI bs))], E]) ∧ Below w.heap.size w w' ∧
      ((getOK bs = true ∧ E = .nilIface) ∨ (getOK bs = false ∧ ErrAt w' aF 1 E)) := by
  have B0 : Below w.heap.size w (w.alloc (.cells #[.int .i64 0, .int .i64 0, .int .i64 0] 23)) := (Below.refl _ _).alloc (Nat.le_refl _) _
  have F0 := Lib.hid (hf.below B0)
  have c0 := F0.out.1
  have M0 := Lib.hid (Whole.new w 23 #[.int .i64 0, .int .i64 0, .int .i64 0])
  have B0' := Lib.hid B0
  have kn : Hid (getOK bs = false) := Lib.hid (by simp [getOK, hn, h18])
  have hlt : aF.block < w.heap.size := hf.2.lt
  have e18 : ((n : Int) != 18) = true := by rw [bne_iff_ne]; omega
  clear hf B0 hn h18
  go_enter Tryd.func18, Tryd.ntmps18
  go_wp2_with fail
  refine (new_any _ _ _ _).mono ?_
  rintro e W2 ⟨rfl, hW2⟩
  have hb2 : Below (w.alloc (.cells #[.int .i64 0, .int .i64 0, .int .i64 0] 23)).heap.size (w.alloc (.cells #[.int .i64 0, .int .i64 0, .int .i64 0] 23)) W2 := by
    rw [← hW2]
    exact (Below.refl _ _).alloc (Nat.le_refl _) _
  have E2 := Lib.hid (show ErrAt W2 aF 1 (.iface 174 (.pointer (some ⟨(w.alloc (.cells #[.int .i64 0, .int .i64 0, .int .i64 0] 23)).heap.size, 0, none⟩))) by rw [← hW2]; exact ErrAt.new F0.out _ _)
  have M2 := M0.out.below hb2 (by simp)
  have B2 := Lib.hid (B0'.out.trans (hb2.mono (by simp)))
  have hz2 : w.heap.size < W2.heap.size := M2.lt
  clear hW2 hb2 F0 M0 B0' c0
  generalize hEV : (Value.iface 174 (.pointer (some ⟨(w.alloc (.cells #[.int .i64 0, .int .i64 0, .int .i64 0] 23)).heap.size, 0, none⟩))) = EV at *
  have HEV : Hid (EV = .iface 174 (.pointer (some ⟨w.heap.size + 1, 0, none⟩))) := Lib.hid (by rw [← hEV]; simp)
  clear hEV
  obtain ⟨m0, m1, m2⟩ := M2.c3
  have f0 := M2.frozen 0
  have f1 := M2.frozen 1
  have f2 := M2.frozen 2
  go_wp2_with fail
  refine bodyPost_ret (v := .tuple #[.agg #[.int .i64 0, .int .i64 0, .int .i64 0], EV]) (by simp [results, Tryd.results18, go_sem, m0, m1, m2]) rfl ?_
  rw [kn.out]
  refine ⟨EV, rfl, ((B2.out.setCell (by simp) _).setCell (by simp) _).setCell (by simp) _, .inr ⟨rfl, ?_⟩⟩
  exact ((E2.out.stored HEV.out (by simp) (by simp; omega) _).stored HEV.out (by simp) (by simp; omega) _).stored HEV.out (by simp) (by simp; omega) _

/-- index.GetMeta of any bytes. -/
theorem getMeta_any (A : Option Addr) (n c : Nat) (bs : List UInt8) (w : World) (hn : bs.length = n) (hc : n ≤ c) (hr : Reads w w.heap.size 1 A n (bv bs)) (aF : Addr) (hf : Sent w 0 aF) :
    Calls Tryd.prog 18 #[.slice A n c] w fun e w' => ∃ E, e = .returned (.tuple #[.agg #[.int .i64 (gSel (getOK bs) (gC bs)), .int .i64 (gSel (getOK bs) (gH bs)), .int .i64 (gSel (getOK bs) (gI bs))], E]) ∧ Below w.heap.size w w' ∧
      ((getOK bs = true ∧ E = .nilIface) ∨ (getOK bs = false ∧ ErrAt w' aF 1 E)) := by
  by_cases h : n = 18
  · subst h
    obtain ⟨b, off, rfl, hC⟩ := came_of hn (by omega) hr
    exact getMeta_18 b off c bs w hC hc aF hf
  · exact getMeta_no18 A n c bs w hn h aF hf
end Go.Proofs.YtbleibmjippmpaaDoor
