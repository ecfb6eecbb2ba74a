/- The document's PutMeta; the walk of IndexMetas. -/
import Derived.Test.YtbleibmjippmpaaDoorMetasLaw
namespace Go.Proofs.YtbleibmjippmpaaDoor
open Go.RowKit

set_option maxHeartbeats 1000000 in
set_option maxRecDepth 100000 in
theorem rputMeta_yes (c h i : Nat) (w : World) (hc : c ≤ 1099511627776) (hh : h ≤ 2147483647) (hi : i ≤ 2147483647) :
    Calls Tryd.prog 20 #[.agg #[.int .i64 c, .int .i64 h, .int .i64 i]] w fun e w' => ∃ v, e = .returned v ∧ w'.ownsRow w.heap.size 5 1 v 18 (bv (metaBytes c h i)) ∧ Below w.heap.size w w' := by
  have M0 := (Whole.new w 29 #[.int .i64 c, .int .i64 h, .int .i64 i]).alloc (.cells #[.int .u8 77, .int .u8 49] 5)
  have R0 := Lib.hid (Reads.boxed (w.alloc (.cells #[.int .i64 c, .int .i64 h, .int .i64 i] 29)) 5 #[.int .u8 77, .int .u8 49] 1 2 rfl)
  have B0 := Lib.hid (((Below.refl w.heap.size w).alloc (Nat.le_refl _) (.cells #[.int .i64 c, .int .i64 h, .int .i64 i] 29)).alloc (by simp) (.cells #[.int .u8 77, .int .u8 49] 5))
  have HM := Lib.hid M0
  clear M0
  go_enter Tryd.func20, Tryd.ntmps20
  go_wp2_with fail
  refine (rput_len _ 2 2 [77, 49] c 8 _ rfl ?_ (by omega) (by omega) (by omega) (by omega) _ 8 rfl rfl).mono ?_
  · have := R0.out
    simpa [bv] using this
  rintro e w1 ⟨v1, rfl, ho1, hb1⟩
  obtain ⟨A1, c1, rfl, hr1⟩ := own_slice ho1
  have M1 := HM.out.below hb1 (by simp; omega)
  have B1 := Lib.hid (B0.out.trans (hb1.mono (by simp; omega)))
  have R1 := Lib.hid hr1
  clear hb1 ho1 hr1 HM R0 B0
  obtain ⟨m0, m1, m2⟩ := M1.c3
  go_wp2_with fail
  refine (rput_len A1 10 c1 ([77, 49] ++ lowB 8 c) h 4 _ (by simp [lowB_len]) R1.out (by omega) (by omega) (by omega) (by omega) _ 4 rfl rfl).mono ?_
  rintro e w2 ⟨v2, rfl, ho2, hb2⟩
  obtain ⟨A2, c2, rfl, hr2⟩ := own_slice ho2
  have M2 := M1.below hb2 M1.lt
  have B2 := Lib.hid (B1.out.trans (hb2.mono B1.out.size))
  have R2 := Lib.hid hr2
  clear hb2 ho2 hr2 R1 m0 m1 m2 M1
  obtain ⟨m0, m1, m2⟩ := M2.c3
  go_wp2_with fail
  refine (rput_len A2 14 c2 ([77, 49] ++ lowB 8 c ++ lowB 4 h) i 4 _ (by simp [lowB_len]) R2.out (by omega) (by omega) (by omega) (by omega) _ 4 rfl rfl).mono ?_
  rintro e w3 ⟨v3, rfl, ho3, hb3⟩
  have B3 := Lib.hid (B2.out.trans (hb3.mono B2.out.size))
  have O3 := Lib.hid (own_lower ho3 B2.out.size : w3.ownsRow w.heap.size _ _ _ _ _)
  clear hb3 ho3 m0 m1 m2 M2 B1 B2 R2
  go_wp2_with fail
  go_ret
  exact ⟨_, rfl, O3.out, B3.out⟩

theorem take2_meta (c h i : Nat) : (metaBytes c h i).take 2 = [77, 49] := by simp [metaBytes]
theorem metaBytes_len (c h i : Nat) : (metaBytes c h i).length = 18 := by simp [metaBytes, lowB_len]
theorem cut_pre (pre x suf : List UInt8) (a n : Nat) (ha : pre.length = a) (hn : x.length = n) : cut (pre ++ x ++ suf) a n = x := by
  subst ha hn
  simp [cut, List.append_assoc]
theorem meta_back (c h i : Nat) (hc : c ≤ 1099511627776) (hh : h ≤ 2147483647) (hi : i ≤ 2147483647) : getOK (metaBytes c h i) = true ∧ gC (metaBytes c h i) = c ∧ gH (metaBytes c h i) = h ∧ gI (metaBytes c h i) = i := by
  have e1 : gC (metaBytes c h i) = c := by
    unfold gC metaBytes
    rw [show [77, 49] ++ lowB 8 c ++ lowB 4 h ++ lowB 4 i = [77, 49] ++ lowB 8 c ++ (lowB 4 h ++ lowB 4 i) by simp [List.append_assoc], cut_pre _ _ _ 2 8 rfl (lowB_len _ _)]
    exact valLE_lowB 8 c (by omega)
  have e2 : gH (metaBytes c h i) = h := by
    unfold gH metaBytes
    rw [cut_pre _ _ _ 10 4 (by simp [lowB_len]) (lowB_len _ _)]
    exact valLE_lowB 4 h (by omega)
  have e3 : gI (metaBytes c h i) = i := by
    unfold gI metaBytes
    rw [show [77, 49] ++ lowB 8 c ++ lowB 4 h ++ lowB 4 i = ([77, 49] ++ lowB 8 c ++ lowB 4 h) ++ lowB 4 i ++ [] by simp, cut_pre _ _ _ 14 4 (by simp [lowB_len]) (lowB_len _ _)]
    exact valLE_lowB 4 i (by omega)
  refine ⟨?_, e1, e2, e3⟩
  unfold getOK
  rw [e1, e2, e3, take2_meta, metaBytes_len]
  simp [metaB, clockB]
  omega

theorem own_cap {w : World} {base size n : Nat} {e : TypeId} {A : Option Addr} {c : Nat} {xs : List Value} (h : w.ownsRow base e size (.slice A n c) n xs) : n ≤ c := by
  rcases h.2 with ⟨h1, _⟩ | ⟨g, cap, cur, h1, _, _, h2, _⟩
  · cases h1
    exact Nat.le_refl _
  · cases h1
    exact h2

set_option maxHeartbeats 4000000 in
set_option maxRecDepth 100000 in
theorem metas_no (c h i : Int) (hm : metaB c h i = false) (A : Option Addr) (n cp : Nat) (bs : List UInt8) (hn : bs.length = n) (hcp : n ≤ cp) (w : World) (hr : Reads w w.heap.size 1 A n (bv bs)) (ad : Nat → Addr) (hs : Sents w ad) :
    Calls Tryd.prog 3 #[.agg #[.int .i64 c, .int .i64 h, .int .i64 i], .slice A n cp] w fun e w' => e = .returned (.bool true) ∧ Below w.heap.size w w' := by
  have hB0 := (Below.refl w.heap.size w).alloc (Nat.le_refl _) (.cells #[.int .i64 c, .int .i64 h, .int .i64 i] 23)
  have S0 := Lib.hid (hs.below hB0)
  have RB0 := Lib.hid ((hr.alloc (Nat.le_refl _) (.cells #[.int .i64 c, .int .i64 h, .int .i64 i] 23)).wider (by simp) : Reads _ (w.alloc (.cells #[.int .i64 c, .int .i64 h, .int .i64 i] 23)).heap.size _ _ _ _)
  have B0 := Lib.hid hB0
  have M0 := Lib.hid (Whole.new w 23 #[.int .i64 c, .int .i64 h, .int .i64 i])
  have hN := Lib.hid hn
  clear hB0 hs hr hn
  go_enter Tryd.func3, Tryd.ntmps3
  go_wp2_with fail
  refine (putMeta_no c h i _ hm (ad 1) S0.out.s1).mono ?_
  rintro e w1 ⟨E1, rfl, hb1, hE1⟩
  have M1 := M0.out.below hb1 (by simp)
  have S1 := Lib.hid (S0.out.below hb1)
  have RB1 := Lib.hid ((RB0.out.below hb1).wider hb1.size)
  have B1 := Lib.hid (B0.out.trans (hb1.mono (by simp)))
  have HE1 := Lib.hid hE1
  have hz1 : w.heap.size < w1.heap.size := M1.lt
  clear hb1 hE1 S0 RB0 B0 M0
  obtain ⟨m0, m1, m2⟩ := M1.c3
  clear M1
  go_wp2_with fail
  refine (rmeta_any c h i _).mono ?_
  rintro e W2 ⟨rfl, hW2⟩
  have hb2 : Below w1.heap.size w1 W2 := by
    rw [← hW2]
    go_grown
  have S2 := Lib.hid (S1.out.below hb2)
  have RB2 := Lib.hid ((RB1.out.below hb2).wider hb2.size)
  have B2 := Lib.hid (B1.out.trans (hb2.mono B1.out.size))
  have HE2 := Lib.hid (HE1.out.below hb2)
  clear hb2 hW2 m0 m1 m2 S1 RB1 B1 HE1
  go_wp2_with fail
  refine (tells_err S2.out 1 (by omega) 1 _ HE2.out 1 rfl).mono ?_
  rintro e w' ⟨rfl, rfl⟩

  -- the second half: the meta of any bytes. Here: world W2, RB2 : Reads of b, S2 : Sents, B2 : Below
  go_wp2_with fail
  refine (getMeta_any A n cp bs _ hN.out hcp RB2.out (ad 1) S2.out.s1).mono ?_
  rintro e w3 ⟨E3, rfl, hb3, h3⟩
  have S3 := Lib.hid (S2.out.below hb3)
  have RB3 := Lib.hid ((RB2.out.below hb3).wider hb3.size)
  have B3 := Lib.hid (B2.out.trans (hb3.mono B2.out.size))
  have H3 := Lib.hid h3
  clear hb3 h3
  have Y0 := Whole.new w3 23 #[.int .i64 (gSel (getOK bs) (gC bs)), .int .i64 (gSel (getOK bs) (gH bs)), .int .i64 (gSel (getOK bs) (gI bs))]
  have S4 := Lib.hid (S3.out.below ((Below.refl _ w3).alloc (Nat.le_refl _) (.cells #[.int .i64 (gSel (getOK bs) (gC bs)), .int .i64 (gSel (getOK bs) (gH bs)), .int .i64 (gSel (getOK bs) (gI bs))] 23)))
  have H4 : Hid ((getOK bs = true ∧ E3 = .nilIface) ∨ (getOK bs = false ∧ ErrAt (w3.alloc (.cells #[.int .i64 (gSel (getOK bs) (gC bs)), .int .i64 (gSel (getOK bs) (gH bs)), .int .i64 (gSel (getOK bs) (gI bs))] 23)) (ad 1) 1 E3)) := Lib.hid (by
    rcases H3.out with h | ⟨h, hE⟩
    · exact .inl h
    · exact .inr ⟨h, hE.below ((Below.refl _ w3).alloc (Nat.le_refl _) _)⟩)
  have B4 := Lib.hid (B3.out.alloc B3.out.size (.cells #[.int .i64 (gSel (getOK bs) (gC bs)), .int .i64 (gSel (getOK bs) (gH bs)), .int .i64 (gSel (getOK bs) (gI bs))] 23))
  have RB4 := Lib.hid ((RB3.out.alloc (Nat.le_refl _) (.cells #[.int .i64 (gSel (getOK bs) (gC bs)), .int .i64 (gSel (getOK bs) (gH bs)), .int .i64 (gSel (getOK bs) (gI bs))] 23)).wider (by simp) : Reads _ (w3.alloc (.cells #[.int .i64 (gSel (getOK bs) (gC bs)), .int .i64 (gSel (getOK bs) (gH bs)), .int .i64 (gSel (getOK bs) (gI bs))] 23)).heap.size _ _ _ _)
  have Y4 := Lib.hid Y0
  clear Y0 S3 RB3 B3 H3 S2 RB2 B2
  go_wp2_with fail
  refine (rgetMeta_any A n cp bs _ hN.out RB4.out).mono ?_
  rintro e w5 ⟨rfl, hb5⟩
  have S5 := Lib.hid (S4.out.below hb5)
  have B5 := Lib.hid (B4.out.trans (hb5.mono (by have := B4.out.size; exact this)))
  have Y5 := Y4.out.below hb5 (by simp)
  have H5 : Hid ((getOK bs = true ∧ E3 = .nilIface) ∨ (getOK bs = false ∧ ErrAt w5 (ad 1) 1 E3)) := Lib.hid (by
    rcases H4.out with h | ⟨h, hE⟩
    · exact .inl h
    · exact .inr ⟨h, hE.below hb5⟩)
  have hz5 : w3.heap.size < w5.heap.size := Y5.lt
  clear hb5 S4 B4 RB4 Y4 H4
  obtain ⟨y0, y1, y2⟩ := Y5.c3
  clear Y5
  cases hok : getOK bs
  · have hE : ErrAt w5 (ad 1) 1 E3 := by
      rcases H5.out with ⟨h, _⟩ | ⟨_, h⟩
      · rw [hok] at h; cases h
      · exact h
    have HE := Lib.hid hE
    have z0 : ∀ x, gSel false x = 0 := fun _ => rfl
    simp only [hok, z0] at y0 y1 y2
    have HK := Lib.hid hok
    clear hE H5
    simp only [z0]
    clear hok
    have S6 := Lib.hid (S5.out.below ((Below.refl _ w5).alloc (Nat.le_refl _) (.cells #[.int .i64 0, .int .i64 0, .int .i64 0] 29)))
    have B6 := Lib.hid (B5.out.alloc B5.out.size (.cells #[.int .i64 0, .int .i64 0, .int .i64 0] 29))
    have E6 := Lib.hid (HE.out.below ((Below.refl _ w5).alloc (Nat.le_refl _) (.cells #[.int .i64 0, .int .i64 0, .int .i64 0] 29)))
    go_wp2_with fail
    refine (tells_err S6.out 1 (by omega) 1 _ E6.out 1 rfl).mono ?_
    rintro e w' ⟨rfl, rfl⟩
    go_wp2_with fail
    refine (awake35 _).mono ?_
    rintro e w7 ⟨rfl, hb7⟩
    have B7 := Lib.hid (B6.out.trans (hb7.mono (by have := B6.out.size; exact this)))
    clear hb7
    go_wp2_with fail
    go_ret
    exact ⟨rfl, B7.out⟩
  · have hE : E3 = .nilIface := by
      rcases H5.out with ⟨_, h⟩ | ⟨h, _⟩
      · exact h
      · rw [hok] at h; cases h
    subst hE
    rw [hok] at y0 y1 y2
    have HK := Lib.hid hok
    clear H5
    clear hok
    generalize gSel true (gC bs) = g0 at *
    generalize gSel true (gH bs) = g1 at *
    generalize gSel true (gI bs) = g2 at *
    have B6 := Lib.hid (B5.out.alloc B5.out.size (.cells #[.int .i64 g0, .int .i64 g1, .int .i64 g2] 29))
    go_wp2_with fail
    refine (awake35 _).mono ?_
    rintro e w7 ⟨rfl, hb7⟩
    have B7 := Lib.hid (B6.out.trans (hb7.mono (by have := B6.out.size; exact this)))
    clear hb7
    go_wp2_with fail
    go_ret
    exact ⟨rfl, B7.out⟩

set_option maxHeartbeats 4000000 in
set_option maxRecDepth 100000 in
theorem metas_yes (c h i : Nat) (hc : c ≤ 1099511627776) (hh : h ≤ 2147483647) (hi : i ≤ 2147483647) (A : Option Addr) (n cp : Nat) (bs : List UInt8) (hn : bs.length = n) (hcp : n ≤ cp) (w : World) (hr : Reads w w.heap.size 1 A n (bv bs)) (ad : Nat → Addr) (hs : Sents w ad) :
    Calls Tryd.prog 3 #[.agg #[.int .i64 c, .int .i64 h, .int .i64 i], .slice A n cp] w fun e w' => e = .returned (.bool true) ∧ Below w.heap.size w w' := by
  have hm : metaB c h i = true := by simp [metaB, clockB]; omega
  have MB := Lib.hid (meta_back c h i hc hh hi)
  have hB0 := (Below.refl w.heap.size w).alloc (Nat.le_refl _) (.cells #[.int .i64 c, .int .i64 h, .int .i64 i] 23)
  have S0 := Lib.hid (hs.below hB0)
  have RB0 := Lib.hid ((hr.alloc (Nat.le_refl _) (.cells #[.int .i64 c, .int .i64 h, .int .i64 i] 23)).wider (by simp) : Reads _ (w.alloc (.cells #[.int .i64 c, .int .i64 h, .int .i64 i] 23)).heap.size _ _ _ _)
  have B0 := Lib.hid hB0
  have M0 := Lib.hid (Whole.new w 23 #[.int .i64 c, .int .i64 h, .int .i64 i])
  have hN := Lib.hid hn
  clear hB0 hs hr hn
  go_enter Tryd.func3, Tryd.ntmps3
  go_wp2_with fail
  refine (putMeta_yes c h i _ hc hh hi).mono ?_
  rintro e w1 ⟨v1, rfl, ho1, hb1⟩
  obtain ⟨A1, c1, rfl, hr1⟩ := own_slice ho1
  have hc1 : 18 ≤ c1 := own_cap ho1
  have M1 := M0.out.below hb1 (by simp)
  have S1 := Lib.hid (S0.out.below hb1)
  have RB1 := Lib.hid ((RB0.out.below hb1).wider hb1.size)
  have B1 := Lib.hid (B0.out.trans (hb1.mono (by simp)))
  have X1 := Lib.hid hr1
  have hz1 : w.heap.size < w1.heap.size := M1.lt
  have HM1 := Lib.hid M1
  clear hb1 hr1 ho1 S0 RB0 B0 M0
  obtain ⟨m0, m1, m2⟩ := M1.c3
  clear M1
  go_wp2_with fail
  refine (rmeta_any c h i _).mono ?_
  rintro e W2 ⟨rfl, hW2⟩
  have hb2 : Below w1.heap.size w1 W2 := by
    rw [← hW2]
    go_grown
  have S2 := Lib.hid (S1.out.below hb2)
  have RB2 := Lib.hid ((RB1.out.below hb2).wider hb2.size)
  have X2 := Lib.hid ((X1.out.below hb2).wider hb2.size)
  have B2 := Lib.hid (B1.out.trans (hb2.mono B1.out.size))
  have M2 := Lib.hid (HM1.out.below hb2 hz1)
  have N2 := Lib.hid (show Whole W2 w1.heap.size 29 #[.int .i64 c, .int .i64 h, .int .i64 i] by
    rw [← hW2]
    exact (Whole.new w1 _ _).alloc _)
  clear hb2 hW2 m0 m1 m2 S1 RB1 B1 X1 HM1
  go_wp2_with fail
  refine (getMeta_any A1 18 c1 (metaBytes c h i) _ (metaBytes_len c h i) hc1 X2.out (ad 1) S2.out.s1).mono ?_
  rintro e w3 ⟨E3, rfl, hb3, h3⟩
  obtain ⟨k1, k2, k3, k4⟩ := MB.out
  have hE : E3 = .nilIface := by
    rcases h3 with ⟨_, h⟩ | ⟨h, _⟩
    · exact h
    · rw [k1] at h; cases h
  subst hE
  have z : ∀ x, gSel true x = x := fun _ => rfl
  simp only [k1, k2, k3, k4, z]
  clear k1 k2 k3 k4 z h3
  have S3 := Lib.hid ((S2.out.below hb3).below ((Below.refl _ w3).alloc (Nat.le_refl _) (.cells #[.int .i64 c, .int .i64 h, .int .i64 i] 23)))
  have RB3 := Lib.hid ((((RB2.out.below hb3).wider hb3.size).alloc (Nat.le_refl _) (.cells #[.int .i64 c, .int .i64 h, .int .i64 i] 23)).wider (by simp) : Reads _ (w3.alloc (.cells #[.int .i64 c, .int .i64 h, .int .i64 i] 23)).heap.size _ _ _ _)
  have X3 := Lib.hid ((((X2.out.below hb3).wider hb3.size).alloc (Nat.le_refl _) (.cells #[.int .i64 c, .int .i64 h, .int .i64 i] 23)).wider (by simp) : Reads _ (w3.alloc (.cells #[.int .i64 c, .int .i64 h, .int .i64 i] 23)).heap.size _ _ _ _)
  have B3 := Lib.hid (B2.out.trans (hb3.mono B2.out.size))
  have B3' := Lib.hid (B3.out.alloc B3.out.size (.cells #[.int .i64 c, .int .i64 h, .int .i64 i] 23))
  have M3 := M2.out.below hb3 M2.out.lt
  have N3 := N2.out.below hb3 N2.out.lt
  clear hb3 S2 RB2 B2 X2 M2 N2 B3
  have hz3 : w.heap.size < w3.heap.size := M3.lt
  have hy3 : w1.heap.size < w3.heap.size := N3.lt
  obtain ⟨m0, m1, m2⟩ := M3.c3
  obtain ⟨n0, n1, n2⟩ := N3.c3
  clear M3 N3
  go_wp2_with fail
  refine (rputMeta_yes c h i _ hc hh hi).mono ?_
  rintro e w4 ⟨v4, rfl, ho4, hb4⟩
  obtain ⟨A4, c4, rfl, hr4⟩ := own_slice ho4
  have S4 := Lib.hid (S3.out.below hb4)
  have RB4 := Lib.hid ((RB3.out.below hb4).wider hb4.size)
  have X4 := Lib.hid ((X3.out.below hb4).wider hb4.size)
  have B4 := Lib.hid (B3'.out.trans (hb4.mono (by have := B3'.out.size; exact this)))
  have R4 := Lib.hid hr4
  clear hb4 hr4 ho4 S3 RB3 B3' X3 m0 m1 m2 n0 n1 n2
  go_wp2_with fail
  refine (sameBytes_yes A1 A4 18 c1 c4 (metaBytes c h i) _ (metaBytes_len c h i) (by omega) X4.out R4.out).mono ?_
  rintro e W2 ⟨rfl, kd, hW2⟩
  have hb2 : Below w4.heap.size w4 W2 := by
    rw [hW2]
    exact below_drewN (Below.refl _ _) _
  have S2 := Lib.hid (S4.out.below hb2)
  have RB2 := Lib.hid ((RB4.out.below hb2).wider hb2.size)
  have B2 := Lib.hid (B4.out.trans (hb2.mono B4.out.size))
  clear hb2 hW2 S4 RB4 B4 X4 R4

  -- the second half: the meta of any bytes. Here: world W2, RB2 : Reads of b, S2 : Sents, B2 : Below
  go_wp2_with fail
  refine (getMeta_any A n cp bs _ hN.out hcp RB2.out (ad 1) S2.out.s1).mono ?_
  rintro e w3 ⟨E3, rfl, hb3, h3⟩
  have S3 := Lib.hid (S2.out.below hb3)
  have RB3 := Lib.hid ((RB2.out.below hb3).wider hb3.size)
  have B3 := Lib.hid (B2.out.trans (hb3.mono B2.out.size))
  have H3 := Lib.hid h3
  clear hb3 h3
  have Y0 := Whole.new w3 23 #[.int .i64 (gSel (getOK bs) (gC bs)), .int .i64 (gSel (getOK bs) (gH bs)), .int .i64 (gSel (getOK bs) (gI bs))]
  have S4 := Lib.hid (S3.out.below ((Below.refl _ w3).alloc (Nat.le_refl _) (.cells #[.int .i64 (gSel (getOK bs) (gC bs)), .int .i64 (gSel (getOK bs) (gH bs)), .int .i64 (gSel (getOK bs) (gI bs))] 23)))
  have H4 : Hid ((getOK bs = true ∧ E3 = .nilIface) ∨ (getOK bs = false ∧ ErrAt (w3.alloc (.cells #[.int .i64 (gSel (getOK bs) (gC bs)), .int .i64 (gSel (getOK bs) (gH bs)), .int .i64 (gSel (getOK bs) (gI bs))] 23)) (ad 1) 1 E3)) := Lib.hid (by
    rcases H3.out with h | ⟨h, hE⟩
    · exact .inl h
    · exact .inr ⟨h, hE.below ((Below.refl _ w3).alloc (Nat.le_refl _) _)⟩)
  have B4 := Lib.hid (B3.out.alloc B3.out.size (.cells #[.int .i64 (gSel (getOK bs) (gC bs)), .int .i64 (gSel (getOK bs) (gH bs)), .int .i64 (gSel (getOK bs) (gI bs))] 23))
  have RB4 := Lib.hid ((RB3.out.alloc (Nat.le_refl _) (.cells #[.int .i64 (gSel (getOK bs) (gC bs)), .int .i64 (gSel (getOK bs) (gH bs)), .int .i64 (gSel (getOK bs) (gI bs))] 23)).wider (by simp) : Reads _ (w3.alloc (.cells #[.int .i64 (gSel (getOK bs) (gC bs)), .int .i64 (gSel (getOK bs) (gH bs)), .int .i64 (gSel (getOK bs) (gI bs))] 23)).heap.size _ _ _ _)
  have Y4 := Lib.hid Y0
  clear Y0 S3 RB3 B3 H3 S2 RB2 B2
  go_wp2_with fail
  refine (rgetMeta_any A n cp bs _ hN.out RB4.out).mono ?_
  rintro e w5 ⟨rfl, hb5⟩
  have S5 := Lib.hid (S4.out.below hb5)
  have B5 := Lib.hid (B4.out.trans (hb5.mono (by have := B4.out.size; exact this)))
  have Y5 := Y4.out.below hb5 (by simp)
  have H5 : Hid ((getOK bs = true ∧ E3 = .nilIface) ∨ (getOK bs = false ∧ ErrAt w5 (ad 1) 1 E3)) := Lib.hid (by
    rcases H4.out with h | ⟨h, hE⟩
    · exact .inl h
    · exact .inr ⟨h, hE.below hb5⟩)
  have hz5 : w3.heap.size < w5.heap.size := Y5.lt
  clear hb5 S4 B4 RB4 Y4 H4
  obtain ⟨y0, y1, y2⟩ := Y5.c3
  clear Y5
  cases hok : getOK bs
  · have hE : ErrAt w5 (ad 1) 1 E3 := by
      rcases H5.out with ⟨h, _⟩ | ⟨_, h⟩
      · rw [hok] at h; cases h
      · exact h
    have HE := Lib.hid hE
    have z0 : ∀ x, gSel false x = 0 := fun _ => rfl
    simp only [hok, z0] at y0 y1 y2
    have HK := Lib.hid hok
    clear hE H5
    simp only [z0]
    clear hok
    have S6 := Lib.hid (S5.out.below ((Below.refl _ w5).alloc (Nat.le_refl _) (.cells #[.int .i64 0, .int .i64 0, .int .i64 0] 29)))
    have B6 := Lib.hid (B5.out.alloc B5.out.size (.cells #[.int .i64 0, .int .i64 0, .int .i64 0] 29))
    have E6 := Lib.hid (HE.out.below ((Below.refl _ w5).alloc (Nat.le_refl _) (.cells #[.int .i64 0, .int .i64 0, .int .i64 0] 29)))
    go_wp2_with fail
    refine (tells_err S6.out 1 (by omega) 1 _ E6.out 1 rfl).mono ?_
    rintro e w' ⟨rfl, rfl⟩
    go_wp2_with fail
    refine (awake35 _).mono ?_
    rintro e w7 ⟨rfl, hb7⟩
    have B7 := Lib.hid (B6.out.trans (hb7.mono (by have := B6.out.size; exact this)))
    clear hb7
    go_wp2_with fail
    go_ret
    exact ⟨rfl, B7.out⟩
  · have hE : E3 = .nilIface := by
      rcases H5.out with ⟨_, h⟩ | ⟨h, _⟩
      · exact h
      · rw [hok] at h; cases h
    subst hE
    rw [hok] at y0 y1 y2
    have HK := Lib.hid hok
    clear H5
    clear hok
    generalize gSel true (gC bs) = g0 at *
    generalize gSel true (gH bs) = g1 at *
    generalize gSel true (gI bs) = g2 at *
    have B6 := Lib.hid (B5.out.alloc B5.out.size (.cells #[.int .i64 g0, .int .i64 g1, .int .i64 g2] 29))
    go_wp2_with fail
    refine (awake35 _).mono ?_
    rintro e w7 ⟨rfl, hb7⟩
    have B7 := Lib.hid (B6.out.trans (hb7.mono (by have := B6.out.size; exact this)))
    clear hb7
    go_wp2_with fail
    go_ret
    exact ⟨rfl, B7.out⟩

/-- IndexMetas returns true. -/
theorem metas_any (c h i : Int) (A : Option Addr) (n cp : Nat) (bs : List UInt8) (hn : bs.length = n) (hcp : n ≤ cp) (w : World) (hr : Reads w w.heap.size 1 A n (bv bs)) (ad : Nat → Addr) (hs : Sents w ad) :
    Calls Tryd.prog 3 #[.agg #[.int .i64 c, .int .i64 h, .int .i64 i], .slice A n cp] w fun e w' => e = .returned (.bool true) ∧ Below w.heap.size w w' := by
  cases hm : metaB c h i
  · exact metas_no c h i hm A n cp bs hn hcp w hr ad hs
  · simp [metaB, clockB] at hm
    obtain ⟨c, rfl⟩ := Int.eq_ofNat_of_zero_le (show 0 ≤ c by omega)
    obtain ⟨h, rfl⟩ := Int.eq_ofNat_of_zero_le (show 0 ≤ h by omega)
    obtain ⟨i, rfl⟩ := Int.eq_ofNat_of_zero_le (show 0 ≤ i by omega)
    exact metas_yes c h i (by omega) (by omega) (by omega) A n cp bs hn hcp w hr ad hs
end Go.Proofs.YtbleibmjippmpaaDoor
